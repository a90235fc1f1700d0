/- Models checked: model.power, superposeref.PowerOf, model.Check, superposeref.CheckModel. What models, handed in, read as. clause.sides, superposeref.SameSides, clause.IsAlways, clause.Always, superposeref.AlwaysOf. clause.IsAlways, clause.Always. clause.Each. clause.Neat$1, Neat$2; superposeref.ApplyClause, SameClause; superposelaw.clauseIs. -/
import Derived.Test.YtmeekpinkfpnhaaB05
import Derived.Test.YtmeekpinkfpnhaaB06
import Derived.Test.YtmeekpinkfpnhaaB08
import Derived.Test.YtmeekpinkfpnhaaB16
set_option linter.unusedSimpArgs false
set_option linter.unusedSectionVars false
set_option linter.unusedVariables false
set_option linter.unnecessarySimpa false
set_option linter.all false
namespace Go.Proofs.Ytmeekpinkfpnhaa
open Go.RowKit
def mdDV (sz : Int) (tb : List (List Int)) : DV := .st [iD sz, .sl (tb.map gI)]
@[go_sem] theorem mdDV_cells (sz : Int) (tb : List (List Int)) : (mdDV sz tb).cells = [iD sz, .sl (tb.map gI)] := (Eq.trans rfl (Eq.refl _))
@[go_sem] theorem mdDV_fold (sz : Int) (tb : List (List Int)) : DV.st [iD sz, .sl (tb.map gI)] = mdDV sz tb := (Eq.trans rfl (Eq.refl _))
set_option maxRecDepth 20000 in
theorem power_tri {n : Int} (h1 : 1 ≤ n) (h3 : n ≤ 3) {j : Nat} (hj : j ≤ 8) : Tri Try.prog 76 [iA n, iA j] (pure' (iA (n ^ j))) := by
  refine tri_enter Try.func76 rfl Try.ntmps76 (by simp only [List.length_cons, List.length_nil]; omega) fun w0 h0 k hrd hwr => ?_
  repeat' (first | refine awp_seq_k fun K hK => ?_ | ((first | refine awp_region_k (by kernel_rfl) fun R hR => ?_ | refine awp_draw mixed (by kernel_rfl) (by kernel_rfl) fun R hR => ?_); simp only [go_sem]) | ((first | (refine hR _ ?_; clear hR R) | refine awp_skip ?_ | refine awp_exit ?_ | refine awp_ret ?_); try simp only [thenA, inBlockA, reduceIte, reduceCtorEq, Nat.reduceEqDiff, if_false, if_true]) | ((first | refine hK _ ?_ | (clear hK K; first | refine hK _ ?_ | (clear hK K; first | refine hK _ ?_ | (clear hK K; first | refine hK _ ?_ | (clear hK K; refine hK _ ?_))))); clear hK K) | refine awp_true rfl rfl ?_ | refine awp_false rfl rfl ?_ | refine awp_block ?_ | refine And.intro (by first | ((repeat' first | omega | exact trivial | rfl | assumption | (intro a e; subst e; rfl) | exact map_sz fun a => (by simp only [go_sem]) | refine And.intro ?_ ?_); done) | fail) ?_ | fail)
  refine awp_loop (fun σ => ∃ i : Nat, σ.t 0 = iA n ∧ σ.t 6 = iA j ∧ σ.t 7 = iA i ∧ σ.t 5 = iA (n ^ i) ∧ σ.h = h0 ∧ i ≤ j) (fun σ => j - (intOf' (σ.t 7)).toNat) ?_ ?_
  · refine ⟨0, ?_⟩
    simp only [go_sem, Int.pow_zero]
    and_intros; all_goals try (first | rfl | omega | assumption | ((repeat (first | exact Fr.rfl' _ _ | assumption | refine Fr.updk ?_ (by omega) _)); done))
  · rintro σ ⟨i, s0, s6, s7, s5, sh, hi⟩
    have hfr : Fr k h0 σ.h := by rw [sh]; exact Fr.rfl' _ _
    obtain ⟨p1, p2⟩ := pw_le h1 h3 (i := i) (by omega)
    rcases Nat.lt_or_ge i j with hlt | hge
    · obtain ⟨p3, p4⟩ := pw_le h1 h3 (i := i + 1) (by omega)
      have hz : (i : Int) < (j : Int) := by omega
      have e : n ^ i * n = n ^ (i + 1) := (Int.pow_succ n i).symm
      repeat' (first | refine awp_seq_k fun K hK => ?_ | ((first | refine awp_region_k (by kernel_rfl) fun R hR => ?_ | refine awp_draw mixed (by kernel_rfl) (by kernel_rfl) fun R hR => ?_); simp only [go_sem, s0, s6, s7, s5, hz, e]) | ((first | (refine hR _ ?_; clear hR R) | refine awp_skip ?_ | refine awp_exit ?_ | refine awp_ret ?_); try simp only [thenA, inBlockA, reduceIte, reduceCtorEq, Nat.reduceEqDiff, if_false, if_true]) | ((first | refine hK _ ?_ | (clear hK K; first | refine hK _ ?_ | (clear hK K; first | refine hK _ ?_ | (clear hK K; first | refine hK _ ?_ | (clear hK K; refine hK _ ?_))))); clear hK K) | refine awp_true rfl rfl ?_ | refine awp_false rfl rfl ?_ | refine awp_block ?_ | refine And.intro (by first | ((repeat' first | omega | exact trivial | rfl | assumption | (intro a e; subst e; rfl) | exact map_sz fun a => (by simp only [go_sem]) | refine And.intro ?_ ?_); done) | fail) ?_ | fail)
      refine ⟨⟨i + 1, ?_⟩, ?_⟩
      rotate_left
      · simp only [go_sem, s0, s6, s7, s5, sh]; omega
      simp only [go_sem, s0, s6, s7, s5, sh]
      and_intros; all_goals try (first | rfl | omega | assumption | ((repeat (first | exact Fr.rfl' _ _ | assumption | refine Fr.updk ?_ (by omega) _)); done))
    · have hz : ¬ ((i : Int) < (j : Int)) := by omega
      obtain rfl : i = j := by omega
      repeat' (first | refine awp_seq_k fun K hK => ?_ | ((first | refine awp_region_k (by kernel_rfl) fun R hR => ?_ | refine awp_draw mixed (by kernel_rfl) (by kernel_rfl) fun R hR => ?_); simp only [go_sem, s0, s6, s7, s5, hz]) | ((first | (refine hR _ ?_; clear hR R) | refine awp_skip ?_ | refine awp_exit ?_ | refine awp_ret ?_); try simp only [thenA, inBlockA, reduceIte, reduceCtorEq, Nat.reduceEqDiff, if_false, if_true]) | ((first | refine hK _ ?_ | (clear hK K; first | refine hK _ ?_ | (clear hK K; first | refine hK _ ?_ | (clear hK K; first | refine hK _ ?_ | (clear hK K; refine hK _ ?_))))); clear hK K) | refine awp_true rfl rfl ?_ | refine awp_false rfl rfl ?_ | refine awp_block ?_ | refine And.intro (by first | ((repeat' first | omega | exact trivial | rfl | assumption | (intro a e; subst e; rfl) | exact map_sz fun a => (by simp only [go_sem]) | refine And.intro ?_ ?_); done) | fail) ?_ | fail)
      (first | refine ret_pure ?_ ?_ ?_ | refine ret_ro ?_ ?_ ?_); focus exact (by simp only [Try.results76, resOkL, resOk, Try.ntmps76, List.toList_toArray]; first | decide | (simp only [go_sem]; done) | (simp only [go_sem]; and_intros <;> first | omega | rfl | decide))
      rotate_left; focus exact (by repeat (first | exact Fr.rfl' _ _ | assumption | refine Fr.updk ?_ (by omega) _))
      simp only [resA, resV, Try.results76, go_sem]
      all_goals try (first | exact Co.t2 (.dat rfl) (.dat rfl) | exact Co.t3 (.dat rfl) (.dat rfl) (.dat rfl))
      exact .dat rfl
set_option maxRecDepth 20000 in
theorem powerOf_tri {n : Int} (h1 : 1 ≤ n) (h3 : n ≤ 3) : ∀ {j : Nat}, j ≤ 8 → Tri Try.prog 81 [iA n, iA j] (pure' (iA (n ^ j)))
  | 0, _ => by
    refine tri_enter Try.func81 rfl Try.ntmps81 (by simp only [List.length_cons, List.length_nil]; omega) fun w0 h0 k hrd hwr => ?_
    have e : ((0 : Nat) : Int) = 0 := rfl
    repeat' (first | refine awp_seq_k fun K hK => ?_ | ((first | refine awp_region_k (by kernel_rfl) fun R hR => ?_ | refine awp_draw mixed (by kernel_rfl) (by kernel_rfl) fun R hR => ?_); simp only [go_sem, e, beq_self_eq_true]) | ((first | (refine hR _ ?_; clear hR R) | refine awp_skip ?_ | refine awp_exit ?_ | refine awp_ret ?_); try simp only [thenA, inBlockA, reduceIte, reduceCtorEq, Nat.reduceEqDiff, if_false, if_true]) | ((first | refine hK _ ?_ | (clear hK K; first | refine hK _ ?_ | (clear hK K; first | refine hK _ ?_ | (clear hK K; first | refine hK _ ?_ | (clear hK K; refine hK _ ?_))))); clear hK K) | refine awp_true rfl rfl ?_ | refine awp_false rfl rfl ?_ | refine awp_block ?_ | refine And.intro (by first | ((repeat' first | omega | exact trivial | rfl | assumption | (intro a e; subst e; rfl) | exact map_sz fun a => (by simp only [go_sem]) | refine And.intro ?_ ?_); done) | fail) ?_ | fail)
    (first | refine ret_pure ?_ ?_ ?_ | refine ret_ro ?_ ?_ ?_); focus exact (by simp only [Try.results81, resOkL, resOk, Try.ntmps81, List.toList_toArray]; first | decide | (simp only [go_sem]; done) | (simp only [go_sem]; and_intros <;> first | omega | rfl | decide))
    rotate_left; focus exact (by repeat (first | exact Fr.rfl' _ _ | assumption | refine Fr.updk ?_ (by omega) _))
    simp only [resA, resV, Try.results81, go_sem]
    all_goals try (first | exact Co.t2 (.dat rfl) (.dat rfl) | exact Co.t3 (.dat rfl) (.dat rfl) (.dat rfl))
    exact co_i (Int.pow_zero n).symm
  | j + 1, hj => by
    have ih := powerOf_tri h1 h3 (j := j) (by omega)
    refine tri_enter Try.func81 rfl Try.ntmps81 (by simp only [List.length_cons, List.length_nil]; omega) fun w0 h0 k hrd hwr => ?_
    obtain ⟨p1, p2⟩ := pw_le h1 h3 (i := j) (by omega)
    obtain ⟨p3, p4⟩ := pw_le h1 h3 (i := j + 1) (by omega)
    have e0 : (((j + 1 : Nat) : Int) == 0) = false := by simp; omega
    have e1 : ((j + 1 : Nat) : Int) - 1 = j := by omega
    have e2 : n * n ^ j = n ^ (j + 1) := by rw [Int.pow_succ, Int.mul_comm]
    repeat' (first | refine awp_seq_k fun K hK => ?_ | ((first | refine awp_region_k (by kernel_rfl) fun R hR => ?_ | refine awp_draw mixed (by kernel_rfl) (by kernel_rfl) fun R hR => ?_); simp only [go_sem, e0, e1, e2]) | ((first | (refine hR _ ?_; clear hR R) | refine awp_skip ?_ | refine awp_exit ?_ | refine awp_ret ?_); try simp only [thenA, inBlockA, reduceIte, reduceCtorEq, Nat.reduceEqDiff, if_false, if_true]) | ((first | refine hK _ ?_ | (clear hK K; first | refine hK _ ?_ | (clear hK K; first | refine hK _ ?_ | (clear hK K; first | refine hK _ ?_ | (clear hK K; refine hK _ ?_))))); clear hK K) | refine awp_true rfl rfl ?_ | refine awp_false rfl rfl ?_ | refine awp_block ?_ | ((first | refine CallK.pure (enter81) (ih) ?_ ?_ | refine CallD.pure (enter81) (ih) ?_ ?_); (focus first | ((repeat (first | exact trivial | refine ⟨(by first | exact Or.inl rfl | exact Or.inr rfl), ?_⟩)); done) | (simp only [coL, AV.dat, true_or, or_true, AV.d.injEq, go_sem]; done)); simp only [go_sem, e0, e1, e2]) | refine And.intro (by first | ((repeat' first | omega | exact trivial | rfl | assumption | (intro a e; subst e; rfl) | exact map_sz fun a => (by simp only [go_sem]) | refine And.intro ?_ ?_); done) | fail) ?_ | fail)
    (first | refine ret_pure ?_ ?_ ?_ | refine ret_ro ?_ ?_ ?_); focus exact (by simp only [Try.results81, resOkL, resOk, Try.ntmps81, List.toList_toArray]; first | decide | (simp only [go_sem]; done) | (simp only [go_sem]; and_intros <;> first | omega | rfl | decide))
    rotate_left; focus exact (by repeat (first | exact Fr.rfl' _ _ | assumption | refine Fr.updk ?_ (by omega) _))
    simp only [resA, resV, Try.results81, go_sem]
    all_goals try (first | exact Co.t2 (.dat rfl) (.dat rfl) | exact Co.t3 (.dat rfl) (.dat rfl) (.dat rfl))
    exact .dat rfl
abbrev mdO (b : Nm) (sz : Int) (tb : List (List Int)) : List (Nm × Ob) := [(b, .cells 39 [iA sz, .d (.sl (tb.map gI))])]
theorem roMd {b : Nm} {sz : Int} {tb : List (List Int)} {k : Nat} {h : Heap} (hb : b.1 < k) (h1 : h b = some (.cells 39 [iA sz, .d (.sl (tb.map gI))])) : RoOK k (mdO b sz tb) h := ⟨fun x hx => by
  simp only [mdO, List.mem_cons, List.not_mem_nil, or_false] at hx; subst hx; exact ⟨hb, h1⟩⟩
set_option maxRecDepth 20000 in
theorem check11_tri (b : Nm) (sz : Int) (tb : List (List Int)) (n : Int) : Tri Try.prog 86 [iA n, .ptr b 0] (rdE (mdO b sz tb) (bA (outOf sz n))) := by
  refine tri_enter_ro Try.func86 rfl Try.ntmps86 (by simp only [List.length_cons, List.length_nil]; omega) fun w0 h0 k hro => ?_
  obtain ⟨hb, eb⟩ := hro.get _ (List.mem_cons_self ..)
  unfold outOf
  cases h1 : decide (n < 0) with
  | true =>
    repeat' (first | refine awp_seq_k fun K hK => ?_ | ((first | refine awp_region_k (by kernel_rfl) fun R hR => ?_ | refine awp_draw mixed (by kernel_rfl) (by kernel_rfl) fun R hR => ?_); simp only [go_sem, eb, h1]) | ((first | (refine hR _ ?_; clear hR R) | refine awp_skip ?_ | refine awp_exit ?_ | refine awp_ret ?_); try simp only [thenA, inBlockA, reduceIte, reduceCtorEq, Nat.reduceEqDiff, if_false, if_true]) | ((first | refine hK _ ?_ | (clear hK K; first | refine hK _ ?_ | (clear hK K; first | refine hK _ ?_ | (clear hK K; first | refine hK _ ?_ | (clear hK K; refine hK _ ?_))))); clear hK K) | refine awp_true rfl rfl ?_ | refine awp_false rfl rfl ?_ | refine awp_block ?_ | refine And.intro (by first | ((repeat' first | omega | exact trivial | rfl | assumption | (intro a e; subst e; rfl) | exact map_sz fun a => (by simp only [go_sem]) | refine And.intro ?_ ?_); done) | fail) ?_ | fail)
    (first | refine ret_pure ?_ ?_ ?_ | refine ret_ro ?_ ?_ ?_); focus exact (by simp only [Try.results86, resOkL, resOk, Try.ntmps86, List.toList_toArray]; first | decide | (simp only [go_sem]; done) | (simp only [go_sem]; and_intros <;> first | omega | rfl | decide))
    rotate_left; focus exact (by repeat (first | exact Fr.rfl' _ _ | assumption | refine Fr.updk ?_ (by omega) _))
    simp only [resA, resV, Try.results86, go_sem]
    all_goals try (first | exact Co.t2 (.dat rfl) (.dat rfl) | exact Co.t3 (.dat rfl) (.dat rfl) (.dat rfl))
    exact .dat rfl
  | false =>
    repeat' (first | refine awp_seq_k fun K hK => ?_ | ((first | refine awp_region_k (by kernel_rfl) fun R hR => ?_ | refine awp_draw mixed (by kernel_rfl) (by kernel_rfl) fun R hR => ?_); simp only [go_sem, eb, h1]) | ((first | (refine hR _ ?_; clear hR R) | refine awp_skip ?_ | refine awp_exit ?_ | refine awp_ret ?_); try simp only [thenA, inBlockA, reduceIte, reduceCtorEq, Nat.reduceEqDiff, if_false, if_true]) | ((first | refine hK _ ?_ | (clear hK K; first | refine hK _ ?_ | (clear hK K; first | refine hK _ ?_ | (clear hK K; first | refine hK _ ?_ | (clear hK K; refine hK _ ?_))))); clear hK K) | refine awp_true rfl rfl ?_ | refine awp_false rfl rfl ?_ | refine awp_block ?_ | refine And.intro (by first | ((repeat' first | omega | exact trivial | rfl | assumption | (intro a e; subst e; rfl) | exact map_sz fun a => (by simp only [go_sem]) | refine And.intro ?_ ?_); done) | fail) ?_ | fail)
    (first | refine ret_pure ?_ ?_ ?_ | refine ret_ro ?_ ?_ ?_); focus exact (by simp only [Try.results86, resOkL, resOk, Try.ntmps86, List.toList_toArray]; first | decide | (simp only [go_sem]; done) | (simp only [go_sem]; and_intros <;> first | omega | rfl | decide))
    rotate_left; focus exact (by repeat (first | exact Fr.rfl' _ _ | assumption | refine Fr.updk ?_ (by omega) _))
    simp only [resA, resV, Try.results86, go_sem]
    all_goals try (first | exact Co.t2 (.dat rfl) (.dat rfl) | exact Co.t3 (.dat rfl) (.dat rfl) (.dat rfl))
    exact .dat rfl
set_option maxRecDepth 20000 in
theorem check1_tri (b : Nm) (sz : Int) (tb : List (List Int)) (r : List Int) (hr : r.length ≤ 16777216) : Tri Try.prog 85 [.d (gI r), .ptr b 0] (rdE (mdO b sz tb) (bA (r.any (outOf sz)))) := by
  refine tri_enter_ro Try.func85 rfl Try.ntmps85 (by simp only [List.length_cons, List.length_nil]; omega) fun w0 h0 k hro => ?_
  repeat' (first | refine awp_seq_k fun K hK => ?_ | ((first | refine awp_region_k (by kernel_rfl) fun R hR => ?_ | refine awp_draw mixed (by kernel_rfl) (by kernel_rfl) fun R hR => ?_); simp only [go_sem]) | ((first | (refine hR _ ?_; clear hR R) | refine awp_skip ?_ | refine awp_exit ?_ | refine awp_ret ?_); try simp only [thenA, inBlockA, reduceIte, reduceCtorEq, Nat.reduceEqDiff, if_false, if_true]) | ((first | refine hK _ ?_ | (clear hK K; first | refine hK _ ?_ | (clear hK K; first | refine hK _ ?_ | (clear hK K; first | refine hK _ ?_ | (clear hK K; refine hK _ ?_))))); clear hK K) | refine awp_true rfl rfl ?_ | refine awp_false rfl rfl ?_ | refine awp_block ?_ | ((first | refine CallK.look (enter69) (containsF_ints r hr 86 (enter86) [.ptr b 0] (mdO b sz tb) (outOf sz) (fun n _ => check11_tri b sz tb n)) ?_ (by assumption) (by repeat (first | exact Fr.rfl' _ _ | assumption | refine Fr.updk ?_ (by omega) _)) ?_ | refine CallD.look (enter69) (containsF_ints r hr 86 (enter86) [.ptr b 0] (mdO b sz tb) (outOf sz) (fun n _ => check11_tri b sz tb n)) ?_ (by assumption) (by repeat (first | exact Fr.rfl' _ _ | assumption | refine Fr.updk ?_ (by omega) _)) (by first | assumption | exact List.cons_ne_nil _ _) ?_); (focus first | ((repeat (first | exact trivial | refine ⟨(by first | exact Or.inl rfl | exact Or.inr rfl), ?_⟩)); done) | (simp only [coL, AV.dat, true_or, or_true, AV.d.injEq, go_sem]; done)); simp only [go_sem]) | refine And.intro (by first | ((repeat' first | omega | exact trivial | rfl | assumption | (intro a e; subst e; rfl) | exact map_sz fun a => (by simp only [go_sem]) | refine And.intro ?_ ?_); done) | fail) ?_ | fail)
  (first | refine ret_pure ?_ ?_ ?_ | refine ret_ro ?_ ?_ ?_); focus exact (by simp only [Try.results85, resOkL, resOk, Try.ntmps85, List.toList_toArray]; first | decide | (simp only [go_sem]; done) | (simp only [go_sem]; and_intros <;> first | omega | rfl | decide))
  rotate_left; focus exact (by repeat (first | exact Fr.rfl' _ _ | assumption | refine Fr.updk ?_ (by omega) _))
  simp only [resA, resV, Try.results85, go_sem]
  all_goals try (first | exact Co.t2 (.dat rfl) (.dat rfl) | exact Co.t3 (.dat rfl) (.dat rfl) (.dat rfl))
  exact .dat rfl
end Go.Proofs.Ytmeekpinkfpnhaa
namespace Go.Proofs.Ytmeekpinkfpnhaa
open Go.ChangeShapes Go.WideShapes Go.RowKit
set_option maxRecDepth 20000 in
theorem model_reads : Reads Try.prog 39 (fun m : Int × List (List Int) => mdDV m.1 m.2) (fun _ => True) (fun m => (m.2.map fun r => r.length + 1).sum + 2) := by
  intro n
  refine ReadsN.map (reads_struct Try.underlying39 rfl (by kernel_rfl) fun m hm => readsF_cons rfl (reads_int Try.underlying3 m) (readsF_cons rfl (reads_slice Try.underlying37 (by decide +kernel) fun m' _ => ints_reads m') readsF_nil)) (fun p => (p.1, p.2.1)) fun p _ => ⟨rfl, trivial, ?_⟩
  simp only
  omega
theorem model_arg : ArgOf Try.prog 39 (fun m : Int × List (List Int) => mdDV m.1 m.2) (fun _ => True) (fun m => (m.2.map fun r => r.length + 1).sum + 2) := argOf_struct Try.underlying39 model_reads fun a => ⟨_, rfl⟩
end Go.Proofs.Ytmeekpinkfpnhaa
namespace Go.Proofs.Ytmeekpinkfpnhaa
open Go.RowKit
set_option maxHeartbeats 2000000 in
set_option maxRecDepth 20000 in
theorem sides_tri (a b : Lt) : Tri Try.prog 118 [.d (ltDV a), .d (ltDV b)] (pure' (bA (sidesB a b))) := by
  refine tri_enter Try.func118 rfl Try.ntmps118 (by simp only [List.length_cons, List.length_nil]; omega) fun w0 h0 k hrd hwr => ?_
  unfold sidesB
  cases h1 : same a.a b.a with
  | true =>
    cases h2 : same a.b b.b with
    | true =>
      repeat' (first | refine awp_seq_k fun K hK => ?_ | ((first | refine awp_region_k (by kernel_rfl) fun R hR => ?_ | refine awp_draw mixed (by kernel_rfl) (by kernel_rfl) fun R hR => ?_); simp only [go_sem, h1, h2]) | ((first | (refine hR _ ?_; clear hR R) | refine awp_skip ?_ | refine awp_exit ?_ | refine awp_ret ?_); try simp only [thenA, inBlockA, reduceIte, reduceCtorEq, Nat.reduceEqDiff, if_false, if_true]) | ((first | refine hK _ ?_ | (clear hK K; first | refine hK _ ?_ | (clear hK K; first | refine hK _ ?_ | (clear hK K; first | refine hK _ ?_ | (clear hK K; refine hK _ ?_))))); clear hK K) | refine awp_true rfl rfl ?_ | refine awp_false rfl rfl ?_ | refine awp_block ?_ | ((first | refine CallK.pure (enter116) (same_tri a.a b.a) ?_ ?_ | refine CallD.pure (enter116) (same_tri a.a b.a) ?_ ?_); (focus first | ((repeat (first | exact trivial | refine ⟨(by first | exact Or.inl rfl | exact Or.inr rfl), ?_⟩)); done) | (simp only [coL, AV.dat, true_or, or_true, AV.d.injEq, go_sem]; done)); simp only [go_sem, h1, h2]) | ((first | refine CallK.pure (enter116) (same_tri a.b b.b) ?_ ?_ | refine CallD.pure (enter116) (same_tri a.b b.b) ?_ ?_); (focus first | ((repeat (first | exact trivial | refine ⟨(by first | exact Or.inl rfl | exact Or.inr rfl), ?_⟩)); done) | (simp only [coL, AV.dat, true_or, or_true, AV.d.injEq, go_sem]; done)); simp only [go_sem, h1, h2]) | refine And.intro (by first | ((repeat' first | omega | exact trivial | rfl | assumption | (intro a e; subst e; rfl) | exact map_sz fun a => (by simp only [go_sem]) | refine And.intro ?_ ?_); done) | fail) ?_ | fail)
      (first | refine ret_pure ?_ ?_ ?_ | refine ret_ro ?_ ?_ ?_); focus exact (by simp only [Try.results118, resOkL, resOk, Try.ntmps118, List.toList_toArray]; first | decide | (simp only [go_sem]; done) | (simp only [go_sem]; and_intros <;> first | omega | rfl | decide))
      rotate_left; focus exact (by repeat (first | exact Fr.rfl' _ _ | assumption | refine Fr.updk ?_ (by omega) _))
      simp only [resA, resV, Try.results118, go_sem]
      all_goals try (first | exact Co.t2 (.dat rfl) (.dat rfl) | exact Co.t3 (.dat rfl) (.dat rfl) (.dat rfl))
      exact .dat rfl
    | false =>
      cases h3 : same a.a b.b with
      | true =>
        repeat' (first | refine awp_seq_k fun K hK => ?_ | ((first | refine awp_region_k (by kernel_rfl) fun R hR => ?_ | refine awp_draw mixed (by kernel_rfl) (by kernel_rfl) fun R hR => ?_); simp only [go_sem, h1, h2, h3]) | ((first | (refine hR _ ?_; clear hR R) | refine awp_skip ?_ | refine awp_exit ?_ | refine awp_ret ?_); try simp only [thenA, inBlockA, reduceIte, reduceCtorEq, Nat.reduceEqDiff, if_false, if_true]) | ((first | refine hK _ ?_ | (clear hK K; first | refine hK _ ?_ | (clear hK K; first | refine hK _ ?_ | (clear hK K; first | refine hK _ ?_ | (clear hK K; refine hK _ ?_))))); clear hK K) | refine awp_true rfl rfl ?_ | refine awp_false rfl rfl ?_ | refine awp_block ?_ | ((first | refine CallK.pure (enter116) (same_tri a.a b.a) ?_ ?_ | refine CallD.pure (enter116) (same_tri a.a b.a) ?_ ?_); (focus first | ((repeat (first | exact trivial | refine ⟨(by first | exact Or.inl rfl | exact Or.inr rfl), ?_⟩)); done) | (simp only [coL, AV.dat, true_or, or_true, AV.d.injEq, go_sem]; done)); simp only [go_sem, h1, h2, h3]) | ((first | refine CallK.pure (enter116) (same_tri a.b b.b) ?_ ?_ | refine CallD.pure (enter116) (same_tri a.b b.b) ?_ ?_); (focus first | ((repeat (first | exact trivial | refine ⟨(by first | exact Or.inl rfl | exact Or.inr rfl), ?_⟩)); done) | (simp only [coL, AV.dat, true_or, or_true, AV.d.injEq, go_sem]; done)); simp only [go_sem, h1, h2, h3]) | ((first | refine CallK.pure (enter116) (same_tri a.a b.b) ?_ ?_ | refine CallD.pure (enter116) (same_tri a.a b.b) ?_ ?_); (focus first | ((repeat (first | exact trivial | refine ⟨(by first | exact Or.inl rfl | exact Or.inr rfl), ?_⟩)); done) | (simp only [coL, AV.dat, true_or, or_true, AV.d.injEq, go_sem]; done)); simp only [go_sem, h1, h2, h3]) | ((first | refine CallK.pure (enter116) (same_tri a.b b.a) ?_ ?_ | refine CallD.pure (enter116) (same_tri a.b b.a) ?_ ?_); (focus first | ((repeat (first | exact trivial | refine ⟨(by first | exact Or.inl rfl | exact Or.inr rfl), ?_⟩)); done) | (simp only [coL, AV.dat, true_or, or_true, AV.d.injEq, go_sem]; done)); simp only [go_sem, h1, h2, h3]) | refine And.intro (by first | ((repeat' first | omega | exact trivial | rfl | assumption | (intro a e; subst e; rfl) | exact map_sz fun a => (by simp only [go_sem]) | refine And.intro ?_ ?_); done) | fail) ?_ | fail)
        (first | refine ret_pure ?_ ?_ ?_ | refine ret_ro ?_ ?_ ?_); focus exact (by simp only [Try.results118, resOkL, resOk, Try.ntmps118, List.toList_toArray]; first | decide | (simp only [go_sem]; done) | (simp only [go_sem]; and_intros <;> first | omega | rfl | decide))
        rotate_left; focus exact (by repeat (first | exact Fr.rfl' _ _ | assumption | refine Fr.updk ?_ (by omega) _))
        simp only [resA, resV, Try.results118, go_sem]
        all_goals try (first | exact Co.t2 (.dat rfl) (.dat rfl) | exact Co.t3 (.dat rfl) (.dat rfl) (.dat rfl))
        exact .dat rfl
      | false =>
        repeat' (first | refine awp_seq_k fun K hK => ?_ | ((first | refine awp_region_k (by kernel_rfl) fun R hR => ?_ | refine awp_draw mixed (by kernel_rfl) (by kernel_rfl) fun R hR => ?_); simp only [go_sem, h1, h2, h3]) | ((first | (refine hR _ ?_; clear hR R) | refine awp_skip ?_ | refine awp_exit ?_ | refine awp_ret ?_); try simp only [thenA, inBlockA, reduceIte, reduceCtorEq, Nat.reduceEqDiff, if_false, if_true]) | ((first | refine hK _ ?_ | (clear hK K; first | refine hK _ ?_ | (clear hK K; first | refine hK _ ?_ | (clear hK K; first | refine hK _ ?_ | (clear hK K; refine hK _ ?_))))); clear hK K) | refine awp_true rfl rfl ?_ | refine awp_false rfl rfl ?_ | refine awp_block ?_ | ((first | refine CallK.pure (enter116) (same_tri a.a b.a) ?_ ?_ | refine CallD.pure (enter116) (same_tri a.a b.a) ?_ ?_); (focus first | ((repeat (first | exact trivial | refine ⟨(by first | exact Or.inl rfl | exact Or.inr rfl), ?_⟩)); done) | (simp only [coL, AV.dat, true_or, or_true, AV.d.injEq, go_sem]; done)); simp only [go_sem, h1, h2, h3]) | ((first | refine CallK.pure (enter116) (same_tri a.b b.b) ?_ ?_ | refine CallD.pure (enter116) (same_tri a.b b.b) ?_ ?_); (focus first | ((repeat (first | exact trivial | refine ⟨(by first | exact Or.inl rfl | exact Or.inr rfl), ?_⟩)); done) | (simp only [coL, AV.dat, true_or, or_true, AV.d.injEq, go_sem]; done)); simp only [go_sem, h1, h2, h3]) | ((first | refine CallK.pure (enter116) (same_tri a.a b.b) ?_ ?_ | refine CallD.pure (enter116) (same_tri a.a b.b) ?_ ?_); (focus first | ((repeat (first | exact trivial | refine ⟨(by first | exact Or.inl rfl | exact Or.inr rfl), ?_⟩)); done) | (simp only [coL, AV.dat, true_or, or_true, AV.d.injEq, go_sem]; done)); simp only [go_sem, h1, h2, h3]) | ((first | refine CallK.pure (enter116) (same_tri a.b b.a) ?_ ?_ | refine CallD.pure (enter116) (same_tri a.b b.a) ?_ ?_); (focus first | ((repeat (first | exact trivial | refine ⟨(by first | exact Or.inl rfl | exact Or.inr rfl), ?_⟩)); done) | (simp only [coL, AV.dat, true_or, or_true, AV.d.injEq, go_sem]; done)); simp only [go_sem, h1, h2, h3]) | refine And.intro (by first | ((repeat' first | omega | exact trivial | rfl | assumption | (intro a e; subst e; rfl) | exact map_sz fun a => (by simp only [go_sem]) | refine And.intro ?_ ?_); done) | fail) ?_ | fail)
        (first | refine ret_pure ?_ ?_ ?_ | refine ret_ro ?_ ?_ ?_); focus exact (by simp only [Try.results118, resOkL, resOk, Try.ntmps118, List.toList_toArray]; first | decide | (simp only [go_sem]; done) | (simp only [go_sem]; and_intros <;> first | omega | rfl | decide))
        rotate_left; focus exact (by repeat (first | exact Fr.rfl' _ _ | assumption | refine Fr.updk ?_ (by omega) _))
        simp only [resA, resV, Try.results118, go_sem]
        all_goals try (first | exact Co.t2 (.dat rfl) (.dat rfl) | exact Co.t3 (.dat rfl) (.dat rfl) (.dat rfl))
        exact .dat rfl
  | false =>
    cases h3 : same a.a b.b with
    | true =>
      repeat' (first | refine awp_seq_k fun K hK => ?_ | ((first | refine awp_region_k (by kernel_rfl) fun R hR => ?_ | refine awp_draw mixed (by kernel_rfl) (by kernel_rfl) fun R hR => ?_); simp only [go_sem, h1, h3]) | ((first | (refine hR _ ?_; clear hR R) | refine awp_skip ?_ | refine awp_exit ?_ | refine awp_ret ?_); try simp only [thenA, inBlockA, reduceIte, reduceCtorEq, Nat.reduceEqDiff, if_false, if_true]) | ((first | refine hK _ ?_ | (clear hK K; first | refine hK _ ?_ | (clear hK K; first | refine hK _ ?_ | (clear hK K; first | refine hK _ ?_ | (clear hK K; refine hK _ ?_))))); clear hK K) | refine awp_true rfl rfl ?_ | refine awp_false rfl rfl ?_ | refine awp_block ?_ | ((first | refine CallK.pure (enter116) (same_tri a.a b.a) ?_ ?_ | refine CallD.pure (enter116) (same_tri a.a b.a) ?_ ?_); (focus first | ((repeat (first | exact trivial | refine ⟨(by first | exact Or.inl rfl | exact Or.inr rfl), ?_⟩)); done) | (simp only [coL, AV.dat, true_or, or_true, AV.d.injEq, go_sem]; done)); simp only [go_sem, h1, h3]) | ((first | refine CallK.pure (enter116) (same_tri a.a b.b) ?_ ?_ | refine CallD.pure (enter116) (same_tri a.a b.b) ?_ ?_); (focus first | ((repeat (first | exact trivial | refine ⟨(by first | exact Or.inl rfl | exact Or.inr rfl), ?_⟩)); done) | (simp only [coL, AV.dat, true_or, or_true, AV.d.injEq, go_sem]; done)); simp only [go_sem, h1, h3]) | ((first | refine CallK.pure (enter116) (same_tri a.b b.a) ?_ ?_ | refine CallD.pure (enter116) (same_tri a.b b.a) ?_ ?_); (focus first | ((repeat (first | exact trivial | refine ⟨(by first | exact Or.inl rfl | exact Or.inr rfl), ?_⟩)); done) | (simp only [coL, AV.dat, true_or, or_true, AV.d.injEq, go_sem]; done)); simp only [go_sem, h1, h3]) | refine And.intro (by first | ((repeat' first | omega | exact trivial | rfl | assumption | (intro a e; subst e; rfl) | exact map_sz fun a => (by simp only [go_sem]) | refine And.intro ?_ ?_); done) | fail) ?_ | fail)
      (first | refine ret_pure ?_ ?_ ?_ | refine ret_ro ?_ ?_ ?_); focus exact (by simp only [Try.results118, resOkL, resOk, Try.ntmps118, List.toList_toArray]; first | decide | (simp only [go_sem]; done) | (simp only [go_sem]; and_intros <;> first | omega | rfl | decide))
      rotate_left; focus exact (by repeat (first | exact Fr.rfl' _ _ | assumption | refine Fr.updk ?_ (by omega) _))
      simp only [resA, resV, Try.results118, go_sem]
      all_goals try (first | exact Co.t2 (.dat rfl) (.dat rfl) | exact Co.t3 (.dat rfl) (.dat rfl) (.dat rfl))
      exact .dat rfl
    | false =>
      repeat' (first | refine awp_seq_k fun K hK => ?_ | ((first | refine awp_region_k (by kernel_rfl) fun R hR => ?_ | refine awp_draw mixed (by kernel_rfl) (by kernel_rfl) fun R hR => ?_); simp only [go_sem, h1, h3]) | ((first | (refine hR _ ?_; clear hR R) | refine awp_skip ?_ | refine awp_exit ?_ | refine awp_ret ?_); try simp only [thenA, inBlockA, reduceIte, reduceCtorEq, Nat.reduceEqDiff, if_false, if_true]) | ((first | refine hK _ ?_ | (clear hK K; first | refine hK _ ?_ | (clear hK K; first | refine hK _ ?_ | (clear hK K; first | refine hK _ ?_ | (clear hK K; refine hK _ ?_))))); clear hK K) | refine awp_true rfl rfl ?_ | refine awp_false rfl rfl ?_ | refine awp_block ?_ | ((first | refine CallK.pure (enter116) (same_tri a.a b.a) ?_ ?_ | refine CallD.pure (enter116) (same_tri a.a b.a) ?_ ?_); (focus first | ((repeat (first | exact trivial | refine ⟨(by first | exact Or.inl rfl | exact Or.inr rfl), ?_⟩)); done) | (simp only [coL, AV.dat, true_or, or_true, AV.d.injEq, go_sem]; done)); simp only [go_sem, h1, h3]) | ((first | refine CallK.pure (enter116) (same_tri a.a b.b) ?_ ?_ | refine CallD.pure (enter116) (same_tri a.a b.b) ?_ ?_); (focus first | ((repeat (first | exact trivial | refine ⟨(by first | exact Or.inl rfl | exact Or.inr rfl), ?_⟩)); done) | (simp only [coL, AV.dat, true_or, or_true, AV.d.injEq, go_sem]; done)); simp only [go_sem, h1, h3]) | ((first | refine CallK.pure (enter116) (same_tri a.b b.a) ?_ ?_ | refine CallD.pure (enter116) (same_tri a.b b.a) ?_ ?_); (focus first | ((repeat (first | exact trivial | refine ⟨(by first | exact Or.inl rfl | exact Or.inr rfl), ?_⟩)); done) | (simp only [coL, AV.dat, true_or, or_true, AV.d.injEq, go_sem]; done)); simp only [go_sem, h1, h3]) | refine And.intro (by first | ((repeat' first | omega | exact trivial | rfl | assumption | (intro a e; subst e; rfl) | exact map_sz fun a => (by simp only [go_sem]) | refine And.intro ?_ ?_); done) | fail) ?_ | fail)
      (first | refine ret_pure ?_ ?_ ?_ | refine ret_ro ?_ ?_ ?_); focus exact (by simp only [Try.results118, resOkL, resOk, Try.ntmps118, List.toList_toArray]; first | decide | (simp only [go_sem]; done) | (simp only [go_sem]; and_intros <;> first | omega | rfl | decide))
      rotate_left; focus exact (by repeat (first | exact Fr.rfl' _ _ | assumption | refine Fr.updk ?_ (by omega) _))
      simp only [resA, resV, Try.results118, go_sem]
      all_goals try (first | exact Co.t2 (.dat rfl) (.dat rfl) | exact Co.t3 (.dat rfl) (.dat rfl) (.dat rfl))
      exact .dat rfl
set_option maxHeartbeats 2000000 in
set_option maxRecDepth 20000 in
theorem sameSides_tri (a b : Lt) : Tri Try.prog 91 [.d (ltDV a), .d (ltDV b)] (pure' (bA (sidesB a b))) := by
  refine tri_enter Try.func91 rfl Try.ntmps91 (by simp only [List.length_cons, List.length_nil]; omega) fun w0 h0 k hrd hwr => ?_
  unfold sidesB
  cases h1 : same a.a b.a with
  | true =>
    cases h2 : same a.b b.b with
    | true =>
      repeat' (first | refine awp_seq_k fun K hK => ?_ | ((first | refine awp_region_k (by kernel_rfl) fun R hR => ?_ | refine awp_draw mixed (by kernel_rfl) (by kernel_rfl) fun R hR => ?_); simp only [go_sem, h1, h2]) | ((first | (refine hR _ ?_; clear hR R) | refine awp_skip ?_ | refine awp_exit ?_ | refine awp_ret ?_); try simp only [thenA, inBlockA, reduceIte, reduceCtorEq, Nat.reduceEqDiff, if_false, if_true]) | ((first | refine hK _ ?_ | (clear hK K; first | refine hK _ ?_ | (clear hK K; first | refine hK _ ?_ | (clear hK K; first | refine hK _ ?_ | (clear hK K; refine hK _ ?_))))); clear hK K) | refine awp_true rfl rfl ?_ | refine awp_false rfl rfl ?_ | refine awp_block ?_ | ((first | refine CallK.pure (enter47) (sameR_tri a.a b.a) ?_ ?_ | refine CallD.pure (enter47) (sameR_tri a.a b.a) ?_ ?_); (focus first | ((repeat (first | exact trivial | refine ⟨(by first | exact Or.inl rfl | exact Or.inr rfl), ?_⟩)); done) | (simp only [coL, AV.dat, true_or, or_true, AV.d.injEq, go_sem]; done)); simp only [go_sem, h1, h2]) | ((first | refine CallK.pure (enter47) (sameR_tri a.b b.b) ?_ ?_ | refine CallD.pure (enter47) (sameR_tri a.b b.b) ?_ ?_); (focus first | ((repeat (first | exact trivial | refine ⟨(by first | exact Or.inl rfl | exact Or.inr rfl), ?_⟩)); done) | (simp only [coL, AV.dat, true_or, or_true, AV.d.injEq, go_sem]; done)); simp only [go_sem, h1, h2]) | refine And.intro (by first | ((repeat' first | omega | exact trivial | rfl | assumption | (intro a e; subst e; rfl) | exact map_sz fun a => (by simp only [go_sem]) | refine And.intro ?_ ?_); done) | fail) ?_ | fail)
      (first | refine ret_pure ?_ ?_ ?_ | refine ret_ro ?_ ?_ ?_); focus exact (by simp only [Try.results91, resOkL, resOk, Try.ntmps91, List.toList_toArray]; first | decide | (simp only [go_sem]; done) | (simp only [go_sem]; and_intros <;> first | omega | rfl | decide))
      rotate_left; focus exact (by repeat (first | exact Fr.rfl' _ _ | assumption | refine Fr.updk ?_ (by omega) _))
      simp only [resA, resV, Try.results91, go_sem]
      all_goals try (first | exact Co.t2 (.dat rfl) (.dat rfl) | exact Co.t3 (.dat rfl) (.dat rfl) (.dat rfl))
      exact .dat rfl
    | false =>
      cases h3 : same a.a b.b with
      | true =>
        repeat' (first | refine awp_seq_k fun K hK => ?_ | ((first | refine awp_region_k (by kernel_rfl) fun R hR => ?_ | refine awp_draw mixed (by kernel_rfl) (by kernel_rfl) fun R hR => ?_); simp only [go_sem, h1, h2, h3]) | ((first | (refine hR _ ?_; clear hR R) | refine awp_skip ?_ | refine awp_exit ?_ | refine awp_ret ?_); try simp only [thenA, inBlockA, reduceIte, reduceCtorEq, Nat.reduceEqDiff, if_false, if_true]) | ((first | refine hK _ ?_ | (clear hK K; first | refine hK _ ?_ | (clear hK K; first | refine hK _ ?_ | (clear hK K; first | refine hK _ ?_ | (clear hK K; refine hK _ ?_))))); clear hK K) | refine awp_true rfl rfl ?_ | refine awp_false rfl rfl ?_ | refine awp_block ?_ | ((first | refine CallK.pure (enter47) (sameR_tri a.a b.a) ?_ ?_ | refine CallD.pure (enter47) (sameR_tri a.a b.a) ?_ ?_); (focus first | ((repeat (first | exact trivial | refine ⟨(by first | exact Or.inl rfl | exact Or.inr rfl), ?_⟩)); done) | (simp only [coL, AV.dat, true_or, or_true, AV.d.injEq, go_sem]; done)); simp only [go_sem, h1, h2, h3]) | ((first | refine CallK.pure (enter47) (sameR_tri a.b b.b) ?_ ?_ | refine CallD.pure (enter47) (sameR_tri a.b b.b) ?_ ?_); (focus first | ((repeat (first | exact trivial | refine ⟨(by first | exact Or.inl rfl | exact Or.inr rfl), ?_⟩)); done) | (simp only [coL, AV.dat, true_or, or_true, AV.d.injEq, go_sem]; done)); simp only [go_sem, h1, h2, h3]) | ((first | refine CallK.pure (enter47) (sameR_tri a.a b.b) ?_ ?_ | refine CallD.pure (enter47) (sameR_tri a.a b.b) ?_ ?_); (focus first | ((repeat (first | exact trivial | refine ⟨(by first | exact Or.inl rfl | exact Or.inr rfl), ?_⟩)); done) | (simp only [coL, AV.dat, true_or, or_true, AV.d.injEq, go_sem]; done)); simp only [go_sem, h1, h2, h3]) | ((first | refine CallK.pure (enter47) (sameR_tri a.b b.a) ?_ ?_ | refine CallD.pure (enter47) (sameR_tri a.b b.a) ?_ ?_); (focus first | ((repeat (first | exact trivial | refine ⟨(by first | exact Or.inl rfl | exact Or.inr rfl), ?_⟩)); done) | (simp only [coL, AV.dat, true_or, or_true, AV.d.injEq, go_sem]; done)); simp only [go_sem, h1, h2, h3]) | refine And.intro (by first | ((repeat' first | omega | exact trivial | rfl | assumption | (intro a e; subst e; rfl) | exact map_sz fun a => (by simp only [go_sem]) | refine And.intro ?_ ?_); done) | fail) ?_ | fail)
        (first | refine ret_pure ?_ ?_ ?_ | refine ret_ro ?_ ?_ ?_); focus exact (by simp only [Try.results91, resOkL, resOk, Try.ntmps91, List.toList_toArray]; first | decide | (simp only [go_sem]; done) | (simp only [go_sem]; and_intros <;> first | omega | rfl | decide))
        rotate_left; focus exact (by repeat (first | exact Fr.rfl' _ _ | assumption | refine Fr.updk ?_ (by omega) _))
        simp only [resA, resV, Try.results91, go_sem]
        all_goals try (first | exact Co.t2 (.dat rfl) (.dat rfl) | exact Co.t3 (.dat rfl) (.dat rfl) (.dat rfl))
        exact .dat rfl
      | false =>
        repeat' (first | refine awp_seq_k fun K hK => ?_ | ((first | refine awp_region_k (by kernel_rfl) fun R hR => ?_ | refine awp_draw mixed (by kernel_rfl) (by kernel_rfl) fun R hR => ?_); simp only [go_sem, h1, h2, h3]) | ((first | (refine hR _ ?_; clear hR R) | refine awp_skip ?_ | refine awp_exit ?_ | refine awp_ret ?_); try simp only [thenA, inBlockA, reduceIte, reduceCtorEq, Nat.reduceEqDiff, if_false, if_true]) | ((first | refine hK _ ?_ | (clear hK K; first | refine hK _ ?_ | (clear hK K; first | refine hK _ ?_ | (clear hK K; first | refine hK _ ?_ | (clear hK K; refine hK _ ?_))))); clear hK K) | refine awp_true rfl rfl ?_ | refine awp_false rfl rfl ?_ | refine awp_block ?_ | ((first | refine CallK.pure (enter47) (sameR_tri a.a b.a) ?_ ?_ | refine CallD.pure (enter47) (sameR_tri a.a b.a) ?_ ?_); (focus first | ((repeat (first | exact trivial | refine ⟨(by first | exact Or.inl rfl | exact Or.inr rfl), ?_⟩)); done) | (simp only [coL, AV.dat, true_or, or_true, AV.d.injEq, go_sem]; done)); simp only [go_sem, h1, h2, h3]) | ((first | refine CallK.pure (enter47) (sameR_tri a.b b.b) ?_ ?_ | refine CallD.pure (enter47) (sameR_tri a.b b.b) ?_ ?_); (focus first | ((repeat (first | exact trivial | refine ⟨(by first | exact Or.inl rfl | exact Or.inr rfl), ?_⟩)); done) | (simp only [coL, AV.dat, true_or, or_true, AV.d.injEq, go_sem]; done)); simp only [go_sem, h1, h2, h3]) | ((first | refine CallK.pure (enter47) (sameR_tri a.a b.b) ?_ ?_ | refine CallD.pure (enter47) (sameR_tri a.a b.b) ?_ ?_); (focus first | ((repeat (first | exact trivial | refine ⟨(by first | exact Or.inl rfl | exact Or.inr rfl), ?_⟩)); done) | (simp only [coL, AV.dat, true_or, or_true, AV.d.injEq, go_sem]; done)); simp only [go_sem, h1, h2, h3]) | ((first | refine CallK.pure (enter47) (sameR_tri a.b b.a) ?_ ?_ | refine CallD.pure (enter47) (sameR_tri a.b b.a) ?_ ?_); (focus first | ((repeat (first | exact trivial | refine ⟨(by first | exact Or.inl rfl | exact Or.inr rfl), ?_⟩)); done) | (simp only [coL, AV.dat, true_or, or_true, AV.d.injEq, go_sem]; done)); simp only [go_sem, h1, h2, h3]) | refine And.intro (by first | ((repeat' first | omega | exact trivial | rfl | assumption | (intro a e; subst e; rfl) | exact map_sz fun a => (by simp only [go_sem]) | refine And.intro ?_ ?_); done) | fail) ?_ | fail)
        (first | refine ret_pure ?_ ?_ ?_ | refine ret_ro ?_ ?_ ?_); focus exact (by simp only [Try.results91, resOkL, resOk, Try.ntmps91, List.toList_toArray]; first | decide | (simp only [go_sem]; done) | (simp only [go_sem]; and_intros <;> first | omega | rfl | decide))
        rotate_left; focus exact (by repeat (first | exact Fr.rfl' _ _ | assumption | refine Fr.updk ?_ (by omega) _))
        simp only [resA, resV, Try.results91, go_sem]
        all_goals try (first | exact Co.t2 (.dat rfl) (.dat rfl) | exact Co.t3 (.dat rfl) (.dat rfl) (.dat rfl))
        exact .dat rfl
  | false =>
    cases h3 : same a.a b.b with
    | true =>
      repeat' (first | refine awp_seq_k fun K hK => ?_ | ((first | refine awp_region_k (by kernel_rfl) fun R hR => ?_ | refine awp_draw mixed (by kernel_rfl) (by kernel_rfl) fun R hR => ?_); simp only [go_sem, h1, h3]) | ((first | (refine hR _ ?_; clear hR R) | refine awp_skip ?_ | refine awp_exit ?_ | refine awp_ret ?_); try simp only [thenA, inBlockA, reduceIte, reduceCtorEq, Nat.reduceEqDiff, if_false, if_true]) | ((first | refine hK _ ?_ | (clear hK K; first | refine hK _ ?_ | (clear hK K; first | refine hK _ ?_ | (clear hK K; first | refine hK _ ?_ | (clear hK K; refine hK _ ?_))))); clear hK K) | refine awp_true rfl rfl ?_ | refine awp_false rfl rfl ?_ | refine awp_block ?_ | ((first | refine CallK.pure (enter47) (sameR_tri a.a b.a) ?_ ?_ | refine CallD.pure (enter47) (sameR_tri a.a b.a) ?_ ?_); (focus first | ((repeat (first | exact trivial | refine ⟨(by first | exact Or.inl rfl | exact Or.inr rfl), ?_⟩)); done) | (simp only [coL, AV.dat, true_or, or_true, AV.d.injEq, go_sem]; done)); simp only [go_sem, h1, h3]) | ((first | refine CallK.pure (enter47) (sameR_tri a.a b.b) ?_ ?_ | refine CallD.pure (enter47) (sameR_tri a.a b.b) ?_ ?_); (focus first | ((repeat (first | exact trivial | refine ⟨(by first | exact Or.inl rfl | exact Or.inr rfl), ?_⟩)); done) | (simp only [coL, AV.dat, true_or, or_true, AV.d.injEq, go_sem]; done)); simp only [go_sem, h1, h3]) | ((first | refine CallK.pure (enter47) (sameR_tri a.b b.a) ?_ ?_ | refine CallD.pure (enter47) (sameR_tri a.b b.a) ?_ ?_); (focus first | ((repeat (first | exact trivial | refine ⟨(by first | exact Or.inl rfl | exact Or.inr rfl), ?_⟩)); done) | (simp only [coL, AV.dat, true_or, or_true, AV.d.injEq, go_sem]; done)); simp only [go_sem, h1, h3]) | refine And.intro (by first | ((repeat' first | omega | exact trivial | rfl | assumption | (intro a e; subst e; rfl) | exact map_sz fun a => (by simp only [go_sem]) | refine And.intro ?_ ?_); done) | fail) ?_ | fail)
      (first | refine ret_pure ?_ ?_ ?_ | refine ret_ro ?_ ?_ ?_); focus exact (by simp only [Try.results91, resOkL, resOk, Try.ntmps91, List.toList_toArray]; first | decide | (simp only [go_sem]; done) | (simp only [go_sem]; and_intros <;> first | omega | rfl | decide))
      rotate_left; focus exact (by repeat (first | exact Fr.rfl' _ _ | assumption | refine Fr.updk ?_ (by omega) _))
      simp only [resA, resV, Try.results91, go_sem]
      all_goals try (first | exact Co.t2 (.dat rfl) (.dat rfl) | exact Co.t3 (.dat rfl) (.dat rfl) (.dat rfl))
      exact .dat rfl
    | false =>
      repeat' (first | refine awp_seq_k fun K hK => ?_ | ((first | refine awp_region_k (by kernel_rfl) fun R hR => ?_ | refine awp_draw mixed (by kernel_rfl) (by kernel_rfl) fun R hR => ?_); simp only [go_sem, h1, h3]) | ((first | (refine hR _ ?_; clear hR R) | refine awp_skip ?_ | refine awp_exit ?_ | refine awp_ret ?_); try simp only [thenA, inBlockA, reduceIte, reduceCtorEq, Nat.reduceEqDiff, if_false, if_true]) | ((first | refine hK _ ?_ | (clear hK K; first | refine hK _ ?_ | (clear hK K; first | refine hK _ ?_ | (clear hK K; first | refine hK _ ?_ | (clear hK K; refine hK _ ?_))))); clear hK K) | refine awp_true rfl rfl ?_ | refine awp_false rfl rfl ?_ | refine awp_block ?_ | ((first | refine CallK.pure (enter47) (sameR_tri a.a b.a) ?_ ?_ | refine CallD.pure (enter47) (sameR_tri a.a b.a) ?_ ?_); (focus first | ((repeat (first | exact trivial | refine ⟨(by first | exact Or.inl rfl | exact Or.inr rfl), ?_⟩)); done) | (simp only [coL, AV.dat, true_or, or_true, AV.d.injEq, go_sem]; done)); simp only [go_sem, h1, h3]) | ((first | refine CallK.pure (enter47) (sameR_tri a.a b.b) ?_ ?_ | refine CallD.pure (enter47) (sameR_tri a.a b.b) ?_ ?_); (focus first | ((repeat (first | exact trivial | refine ⟨(by first | exact Or.inl rfl | exact Or.inr rfl), ?_⟩)); done) | (simp only [coL, AV.dat, true_or, or_true, AV.d.injEq, go_sem]; done)); simp only [go_sem, h1, h3]) | ((first | refine CallK.pure (enter47) (sameR_tri a.b b.a) ?_ ?_ | refine CallD.pure (enter47) (sameR_tri a.b b.a) ?_ ?_); (focus first | ((repeat (first | exact trivial | refine ⟨(by first | exact Or.inl rfl | exact Or.inr rfl), ?_⟩)); done) | (simp only [coL, AV.dat, true_or, or_true, AV.d.injEq, go_sem]; done)); simp only [go_sem, h1, h3]) | refine And.intro (by first | ((repeat' first | omega | exact trivial | rfl | assumption | (intro a e; subst e; rfl) | exact map_sz fun a => (by simp only [go_sem]) | refine And.intro ?_ ?_); done) | fail) ?_ | fail)
      (first | refine ret_pure ?_ ?_ ?_ | refine ret_ro ?_ ?_ ?_); focus exact (by simp only [Try.results91, resOkL, resOk, Try.ntmps91, List.toList_toArray]; first | decide | (simp only [go_sem]; done) | (simp only [go_sem]; and_intros <;> first | omega | rfl | decide))
      rotate_left; focus exact (by repeat (first | exact Fr.rfl' _ _ | assumption | refine Fr.updk ?_ (by omega) _))
      simp only [resA, resV, Try.results91, go_sem]
      all_goals try (first | exact Co.t2 (.dat rfl) (.dat rfl) | exact Co.t3 (.dat rfl) (.dat rfl) (.dat rfl))
      exact .dat rfl
abbrev ltC (l : Lt) : List AV := [bA l.y, iA l.a.v, iA l.a.f, .d (.sl (l.a.us.map tmDV)), iA l.b.v, iA l.b.f, .d (.sl (l.b.us.map tmDV))]
abbrev ltO (b : Nm) (l : Lt) : List (Nm × Ob) := [(b, .cells 107 (ltC l))]
theorem roLt {b : Nm} {l : Lt} {k : Nat} {h : Heap} (h1 : b.1 < k) (e : h b = some (.cells 107 (ltC l))) : RoOK k (ltO b l) h := ⟨fun x hx => by
  simp only [ltO, List.mem_cons, List.not_mem_nil, or_false] at hx; subst hx; exact ⟨h1, e⟩⟩
set_option maxRecDepth 20000 in
theorem alw11_tri (b : Nm) (l x : Lt) : Tri Try.prog 123 [.d (ltDV x), .ptr b 0] (rdE (ltO b l) (bA (!x.y && sidesB x l))) := by
  refine tri_enter_ro Try.func123 rfl Try.ntmps123 (by simp only [List.length_cons, List.length_nil]; omega) fun w0 h0 k hro => ?_
  obtain ⟨n1, eb⟩ := hro.get _ (List.mem_cons_self ..)
  have q1 := nmne n1
  cases hy : x.y with
  | true =>
    repeat' (first | refine awp_seq_k fun K hK => ?_ | ((first | refine awp_region_k (by kernel_rfl) fun R hR => ?_ | refine awp_draw mixed (by kernel_rfl) (by kernel_rfl) fun R hR => ?_); simp only [go_sem, eb, q1, hy]) | ((first | (refine hR _ ?_; clear hR R) | refine awp_skip ?_ | refine awp_exit ?_ | refine awp_ret ?_); try simp only [thenA, inBlockA, reduceIte, reduceCtorEq, Nat.reduceEqDiff, if_false, if_true]) | ((first | refine hK _ ?_ | (clear hK K; first | refine hK _ ?_ | (clear hK K; first | refine hK _ ?_ | (clear hK K; first | refine hK _ ?_ | (clear hK K; refine hK _ ?_))))); clear hK K) | refine awp_true rfl rfl ?_ | refine awp_false rfl rfl ?_ | refine awp_block ?_ | refine And.intro (by first | ((repeat' first | omega | exact trivial | rfl | assumption | (intro a e; subst e; rfl) | exact map_sz fun a => (by simp only [go_sem]) | refine And.intro ?_ ?_); done) | fail) ?_ | fail)
    (first | refine ret_pure ?_ ?_ ?_ | refine ret_ro ?_ ?_ ?_); focus exact (by simp only [Try.results123, resOkL, resOk, Try.ntmps123, List.toList_toArray]; first | decide | (simp only [go_sem]; done) | (simp only [go_sem]; and_intros <;> first | omega | rfl | decide))
    rotate_left; focus exact (by repeat (first | exact Fr.rfl' _ _ | assumption | refine Fr.updk ?_ (by omega) _))
    simp only [resA, resV, Try.results123, go_sem]
    all_goals try (first | exact Co.t2 (.dat rfl) (.dat rfl) | exact Co.t3 (.dat rfl) (.dat rfl) (.dat rfl))
    exact .dat rfl
  | false =>
    have hx : ltDV x = .st [bD false, iD x.a.v, iD x.a.f, .sl (x.a.us.map tmDV), iD x.b.v, iD x.b.f, .sl (x.b.us.map tmDV)] := by rw [← hy]; rfl
    have hs := sides_tri x l
    rw [hx] at hs
    repeat' (first | refine awp_seq_k fun K hK => ?_ | ((first | refine awp_region_k (by kernel_rfl) fun R hR => ?_ | refine awp_draw mixed (by kernel_rfl) (by kernel_rfl) fun R hR => ?_); simp only [go_sem, eb, q1, hy]) | ((first | (refine hR _ ?_; clear hR R) | refine awp_skip ?_ | refine awp_exit ?_ | refine awp_ret ?_); try simp only [thenA, inBlockA, reduceIte, reduceCtorEq, Nat.reduceEqDiff, if_false, if_true]) | ((first | refine hK _ ?_ | (clear hK K; first | refine hK _ ?_ | (clear hK K; first | refine hK _ ?_ | (clear hK K; first | refine hK _ ?_ | (clear hK K; refine hK _ ?_))))); clear hK K) | refine awp_true rfl rfl ?_ | refine awp_false rfl rfl ?_ | refine awp_block ?_ | ((first | refine CallK.pure (enter118) (hs) ?_ ?_ | refine CallD.pure (enter118) (hs) ?_ ?_); (focus first | ((repeat (first | exact trivial | refine ⟨(by first | exact Or.inl rfl | exact Or.inr rfl), ?_⟩)); done) | (simp only [coL, AV.dat, true_or, or_true, AV.d.injEq, go_sem]; done)); simp only [go_sem, eb, q1, hy]) | refine And.intro (by first | ((repeat' first | omega | exact trivial | rfl | assumption | (intro a e; subst e; rfl) | exact map_sz fun a => (by simp only [go_sem]) | refine And.intro ?_ ?_); done) | fail) ?_ | fail)
    (first | refine ret_pure ?_ ?_ ?_ | refine ret_ro ?_ ?_ ?_); focus exact (by simp only [Try.results123, resOkL, resOk, Try.ntmps123, List.toList_toArray]; first | decide | (simp only [go_sem]; done) | (simp only [go_sem]; and_intros <;> first | omega | rfl | decide))
    rotate_left; focus exact (by repeat (first | exact Fr.rfl' _ _ | assumption | refine Fr.updk ?_ (by omega) _))
    simp only [resA, resV, Try.results123, go_sem]
    all_goals try (first | exact Co.t2 (.dat rfl) (.dat rfl) | exact Co.t3 (.dat rfl) (.dat rfl) (.dat rfl))
    exact .dat rfl
end Go.Proofs.Ytmeekpinkfpnhaa
namespace Go.Proofs.Ytmeekpinkfpnhaa
open Go.RowKit
abbrev clO (b : Nm) (c : List Lt) : List (Nm × Ob) := [(b, .cells 41 [.d (clDV c)])]
theorem roCl {b : Nm} {c : List Lt} {k : Nat} {h : Heap} (h1 : b.1 < k) (e : h b = some (.cells 41 [.d (clDV c)])) : RoOK k (clO b c) h := ⟨fun x hx => by
  simp only [clO, List.mem_cons, List.not_mem_nil, or_false] at hx; subst hx; exact ⟨h1, e⟩⟩
set_option maxHeartbeats 1000000 in
set_option maxRecDepth 20000 in
theorem alw1_tri (b : Nm) (c : List Lt) (hc : c.length ≤ 4000000) (l : Lt) : Tri Try.prog 122 [.d (ltDV l), .ptr b 0] (rdE (clO b c) (bA (l.y && (same l.a l.b || c.any fun x => !x.y && sidesB x l)))) := by
  obtain ⟨y, s, t⟩ := l
  dsimp only
  refine tri_enter_ro Try.func122 rfl Try.ntmps122 (by simp only [List.length_cons, List.length_nil]; omega) fun w0 h0 k hro => ?_
  obtain ⟨n1, eb⟩ := hro.get _ (List.mem_cons_self ..)
  have q1 := nmne n1
  cases y with
  | false =>
    repeat' (first | refine awp_seq_k fun K hK => ?_ | ((first | refine awp_region_k (by kernel_rfl) fun R hR => ?_ | refine awp_draw mixed (by kernel_rfl) (by kernel_rfl) fun R hR => ?_); simp only [go_sem, eb, q1]) | ((first | (refine hR _ ?_; clear hR R) | refine awp_skip ?_ | refine awp_exit ?_ | refine awp_ret ?_); try simp only [thenA, inBlockA, reduceIte, reduceCtorEq, Nat.reduceEqDiff, if_false, if_true]) | ((first | refine hK _ ?_ | (clear hK K; first | refine hK _ ?_ | (clear hK K; first | refine hK _ ?_ | (clear hK K; first | refine hK _ ?_ | (clear hK K; refine hK _ ?_))))); clear hK K) | refine awp_true rfl rfl ?_ | refine awp_false rfl rfl ?_ | refine awp_block ?_ | refine And.intro (by first | ((repeat' first | omega | exact trivial | rfl | assumption | (intro a e; subst e; rfl) | exact map_sz fun a => (by simp only [go_sem]) | refine And.intro ?_ ?_); done) | fail) ?_ | fail)
    (first | refine ret_pure ?_ ?_ ?_ | refine ret_ro ?_ ?_ ?_); focus exact (by simp only [Try.results122, resOkL, resOk, Try.ntmps122, List.toList_toArray]; first | decide | (simp only [go_sem]; done) | (simp only [go_sem]; and_intros <;> first | omega | rfl | decide))
    rotate_left; focus exact (by repeat (first | exact Fr.rfl' _ _ | assumption | refine Fr.updk ?_ (by omega) _))
    simp only [resA, resV, Try.results122, go_sem]
    all_goals try (first | exact Co.t2 (.dat rfl) (.dat rfl) | exact Co.t3 (.dat rfl) (.dat rfl) (.dat rfl))
    exact .dat rfl
  | true =>
    cases h1 : same s t with
    | true =>
      repeat' (first | refine awp_seq_k fun K hK => ?_ | ((first | refine awp_region_k (by kernel_rfl) fun R hR => ?_ | refine awp_draw mixed (by kernel_rfl) (by kernel_rfl) fun R hR => ?_); simp only [go_sem, eb, q1, h1]) | ((first | (refine hR _ ?_; clear hR R) | refine awp_skip ?_ | refine awp_exit ?_ | refine awp_ret ?_); try simp only [thenA, inBlockA, reduceIte, reduceCtorEq, Nat.reduceEqDiff, if_false, if_true]) | ((first | refine hK _ ?_ | (clear hK K; first | refine hK _ ?_ | (clear hK K; first | refine hK _ ?_ | (clear hK K; first | refine hK _ ?_ | (clear hK K; refine hK _ ?_))))); clear hK K) | refine awp_true rfl rfl ?_ | refine awp_false rfl rfl ?_ | refine awp_block ?_ | ((first | refine CallK.pure (enter116) (same_tri s t) ?_ ?_ | refine CallD.pure (enter116) (same_tri s t) ?_ ?_); (focus first | ((repeat (first | exact trivial | refine ⟨(by first | exact Or.inl rfl | exact Or.inr rfl), ?_⟩)); done) | (simp only [coL, AV.dat, true_or, or_true, AV.d.injEq, go_sem]; done)); simp only [go_sem, eb, q1, h1]) | refine And.intro (by first | ((repeat' first | omega | exact trivial | rfl | assumption | (intro a e; subst e; rfl) | exact map_sz fun a => (by simp only [go_sem]) | refine And.intro ?_ ?_); done) | fail) ?_ | fail)
      (first | refine ret_pure ?_ ?_ ?_ | refine ret_ro ?_ ?_ ?_); focus exact (by simp only [Try.results122, resOkL, resOk, Try.ntmps122, List.toList_toArray]; first | decide | (simp only [go_sem]; done) | (simp only [go_sem]; and_intros <;> first | omega | rfl | decide))
      rotate_left; focus exact (by repeat (first | exact Fr.rfl' _ _ | assumption | refine Fr.updk ?_ (by omega) _))
      simp only [resA, resV, Try.results122, go_sem]
      all_goals try (first | exact Co.t2 (.dat rfl) (.dat rfl) | exact Co.t3 (.dat rfl) (.dat rfl) (.dat rfl))
      exact .dat rfl
    | false =>
      have hcf := containsF_lits c (by omega) 123 (enter123) [.ptr (k, 0) 0] (ltO (k, 0) ⟨true, s, t⟩) (fun x => !x.y && sidesB x ⟨true, s, t⟩) (fun x _ => alw11_tri (k, 0) ⟨true, s, t⟩ x)
      repeat' (first | refine awp_seq_k fun K hK => ?_ | ((first | refine awp_region_k (by kernel_rfl) fun R hR => ?_ | refine awp_draw mixed (by kernel_rfl) (by kernel_rfl) fun R hR => ?_); simp only [go_sem, eb, q1, h1]) | ((first | (refine hR _ ?_; clear hR R) | refine awp_skip ?_ | refine awp_exit ?_ | refine awp_ret ?_); try simp only [thenA, inBlockA, reduceIte, reduceCtorEq, Nat.reduceEqDiff, if_false, if_true]) | ((first | refine hK _ ?_ | (clear hK K; first | refine hK _ ?_ | (clear hK K; first | refine hK _ ?_ | (clear hK K; first | refine hK _ ?_ | (clear hK K; refine hK _ ?_))))); clear hK K) | refine awp_true rfl rfl ?_ | refine awp_false rfl rfl ?_ | refine awp_block ?_ | ((first | refine CallK.pure (enter116) (same_tri s t) ?_ ?_ | refine CallD.pure (enter116) (same_tri s t) ?_ ?_ | refine CallK.look (enter78) (hcf) ?_ (roLt (k := k + 1) (Nat.lt_succ_self k) (by simp only [go_sem])) (Fr.rfl' _ _) ?_ | refine CallD.look (enter78) (hcf) ?_ (roLt (k := k + 1) (Nat.lt_succ_self k) (by simp only [go_sem])) (Fr.rfl' _ _) (by first | assumption | exact List.cons_ne_nil _ _) ?_); (focus first | ((repeat (first | exact trivial | refine ⟨(by first | exact Or.inl rfl | exact Or.inr rfl), ?_⟩)); done) | (simp only [coL, AV.dat, true_or, or_true, AV.d.injEq, go_sem]; done)); simp only [go_sem, eb, q1, h1]) | refine And.intro (by first | ((repeat' first | omega | exact trivial | rfl | assumption | (intro a e; subst e; rfl) | exact map_sz fun a => (by simp only [go_sem]) | refine And.intro ?_ ?_); done) | fail) ?_ | fail)
      (first | refine ret_pure ?_ ?_ ?_ | refine ret_ro ?_ ?_ ?_); focus exact (by simp only [Try.results122, resOkL, resOk, Try.ntmps122, List.toList_toArray]; first | decide | (simp only [go_sem]; done) | (simp only [go_sem]; and_intros <;> first | omega | rfl | decide))
      rotate_left; focus exact (by repeat (first | exact Fr.rfl' _ _ | assumption | refine Fr.updk ?_ (by omega) _))
      simp only [resA, resV, Try.results122, go_sem]
      all_goals try (first | exact Co.t2 (.dat rfl) (.dat rfl) | exact Co.t3 (.dat rfl) (.dat rfl) (.dat rfl))
      exact .dat rfl
set_option maxRecDepth 20000 in
theorem isAlways_tri (c : List Lt) (hc : c.length ≤ 4000000) : Tri Try.prog 89 [.d (clDV c)] (pure' (bA (alwB c))) := by
  refine tri_enter Try.func89 rfl Try.ntmps89 (by simp only [List.length_cons, List.length_nil]; omega) fun w0 h0 k hrd hwr => ?_
  have hcf := containsF_lits c (by omega) 122 (enter122) [.ptr (k, 0) 0] (clO (k, 0) c) (fun l => l.y && (same l.a l.b || c.any fun x => !x.y && sidesB x l)) (fun l _ => alw1_tri (k, 0) c hc l)
  repeat' (first | refine awp_seq_k fun K hK => ?_ | ((first | refine awp_region_k (by kernel_rfl) fun R hR => ?_ | refine awp_draw mixed (by kernel_rfl) (by kernel_rfl) fun R hR => ?_); simp only [go_sem]) | ((first | (refine hR _ ?_; clear hR R) | refine awp_skip ?_ | refine awp_exit ?_ | refine awp_ret ?_); try simp only [thenA, inBlockA, reduceIte, reduceCtorEq, Nat.reduceEqDiff, if_false, if_true]) | ((first | refine hK _ ?_ | (clear hK K; first | refine hK _ ?_ | (clear hK K; first | refine hK _ ?_ | (clear hK K; first | refine hK _ ?_ | (clear hK K; refine hK _ ?_))))); clear hK K) | refine awp_true rfl rfl ?_ | refine awp_false rfl rfl ?_ | refine awp_block ?_ | ((first | refine CallK.look (enter78) (hcf) ?_ (roCl (k := k + 1) (Nat.lt_succ_self k) (by simp only [go_sem])) (Fr.rfl' _ _) ?_ | refine CallD.look (enter78) (hcf) ?_ (roCl (k := k + 1) (Nat.lt_succ_self k) (by simp only [go_sem])) (Fr.rfl' _ _) (by first | assumption | exact List.cons_ne_nil _ _) ?_); (focus first | ((repeat (first | exact trivial | refine ⟨(by first | exact Or.inl rfl | exact Or.inr rfl), ?_⟩)); done) | (simp only [coL, AV.dat, true_or, or_true, AV.d.injEq, go_sem]; done)); simp only [go_sem]) | refine And.intro (by first | ((repeat' first | omega | exact trivial | rfl | assumption | (intro a e; subst e; rfl) | exact map_sz fun a => (by simp only [go_sem]) | refine And.intro ?_ ?_); done) | fail) ?_ | fail)
  (first | refine ret_pure ?_ ?_ ?_ | refine ret_ro ?_ ?_ ?_); focus exact (by simp only [Try.results89, resOkL, resOk, Try.ntmps89, List.toList_toArray]; first | decide | (simp only [go_sem]; done) | (simp only [go_sem]; and_intros <;> first | omega | rfl | decide))
  rotate_left; focus exact (by repeat (first | exact Fr.rfl' _ _ | assumption | refine Fr.updk ?_ (by omega) _))
  simp only [resA, resV, Try.results89, go_sem]
  all_goals try (first | exact Co.t2 (.dat rfl) (.dat rfl) | exact Co.t3 (.dat rfl) (.dat rfl) (.dat rfl))
  exact .dat rfl
set_option maxRecDepth 20000 in
theorem one_tri (g : List Int) (c : List Lt) (hc : c.length ≤ 4000000) : Tri Try.prog 87 [.d (sgDV g), .d (clDV c)] (pure' (iA (clsOk g [c]))) := by
  have hcc := clCheck_tri g [c] (by simp) (by simpa using hc)
  refine tri_enter Try.func87 rfl Try.ntmps87 (by simp only [List.length_cons, List.length_nil]; omega) fun w0 h0 k hrd hwr => ?_
  repeat' (first | refine awp_seq_k fun K hK => ?_ | ((first | refine awp_region_k (by kernel_rfl) fun R hR => ?_ | refine awp_draw mixed (by kernel_rfl) (by kernel_rfl) fun R hR => ?_); simp only [go_sem]) | ((first | (refine hR _ ?_; clear hR R) | refine awp_skip ?_ | refine awp_exit ?_ | refine awp_ret ?_); try simp only [thenA, inBlockA, reduceIte, reduceCtorEq, Nat.reduceEqDiff, if_false, if_true]) | ((first | refine hK _ ?_ | (clear hK K; first | refine hK _ ?_ | (clear hK K; first | refine hK _ ?_ | (clear hK K; first | refine hK _ ?_ | (clear hK K; refine hK _ ?_))))); clear hK K) | refine awp_true rfl rfl ?_ | refine awp_false rfl rfl ?_ | refine awp_block ?_ | ((first | refine CallK.pure (enter36) (hcc) ?_ ?_ | refine CallD.pure (enter36) (hcc) ?_ ?_); (focus first | ((repeat (first | exact trivial | refine ⟨(by first | exact Or.inl rfl | exact Or.inr rfl), ?_⟩)); done) | (simp only [coL, AV.dat, true_or, or_true, AV.d.injEq, go_sem]; done)); simp only [go_sem]) | refine And.intro (by first | ((repeat' first | omega | exact trivial | rfl | assumption | (intro a e; subst e; rfl) | exact map_sz fun a => (by simp only [go_sem]) | refine And.intro ?_ ?_); done) | fail) ?_ | fail)
  (first | refine ret_pure ?_ ?_ ?_ | refine ret_ro ?_ ?_ ?_); focus exact (by simp only [Try.results87, resOkL, resOk, Try.ntmps87, List.toList_toArray]; first | decide | (simp only [go_sem]; done) | (simp only [go_sem]; and_intros <;> first | omega | rfl | decide))
  rotate_left; focus exact (by repeat (first | exact Fr.rfl' _ _ | assumption | refine Fr.updk ?_ (by omega) _))
  simp only [resA, resV, Try.results87, go_sem]
  all_goals try (first | exact Co.t2 (.dat rfl) (.dat rfl) | exact Co.t3 (.dat rfl) (.dat rfl) (.dat rfl))
  exact .dat rfl
def alwAns (g : List Int) (c : List Lt) : Bool × Int := if clsOk g [c] ≠ 0 then (false, clsOk g [c]) else (alwB c, 0)
set_option maxRecDepth 20000 in
theorem always_tri (g : List Int) (c : List Lt) (hc : c.length ≤ 4000000) : Tri Try.prog 30 [.d (sgDV g), .d (clDV c)] (pure' (.tup [bA (alwAns g c).1, iA (alwAns g c).2])) := by
  refine tri_enter Try.func30 rfl Try.ntmps30 (by simp only [List.length_cons, List.length_nil]; omega) fun w0 h0 k hrd hwr => ?_
  cases ho : clsOk g [c] == 0 with
  | false =>
    have ho' : (clsOk g [c] != 0) = true := by simpa using ho
    have ha : alwAns g c = (false, clsOk g [c]) := by unfold alwAns; rw [if_pos (by simpa using ho)]
    repeat' (first | refine awp_seq_k fun K hK => ?_ | ((first | refine awp_region_k (by kernel_rfl) fun R hR => ?_ | refine awp_draw mixed (by kernel_rfl) (by kernel_rfl) fun R hR => ?_); simp only [go_sem, ho']) | ((first | (refine hR _ ?_; clear hR R) | refine awp_skip ?_ | refine awp_exit ?_ | refine awp_ret ?_); try simp only [thenA, inBlockA, reduceIte, reduceCtorEq, Nat.reduceEqDiff, if_false, if_true]) | ((first | refine hK _ ?_ | (clear hK K; first | refine hK _ ?_ | (clear hK K; first | refine hK _ ?_ | (clear hK K; first | refine hK _ ?_ | (clear hK K; refine hK _ ?_))))); clear hK K) | refine awp_true rfl rfl ?_ | refine awp_false rfl rfl ?_ | refine awp_block ?_ | ((first | refine CallK.pure (enter87) (one_tri g c hc) ?_ ?_ | refine CallD.pure (enter87) (one_tri g c hc) ?_ ?_); (focus first | ((repeat (first | exact trivial | refine ⟨(by first | exact Or.inl rfl | exact Or.inr rfl), ?_⟩)); done) | (simp only [coL, AV.dat, true_or, or_true, AV.d.injEq, go_sem]; done)); simp only [go_sem, ho']) | refine And.intro (by first | ((repeat' first | omega | exact trivial | rfl | assumption | (intro a e; subst e; rfl) | exact map_sz fun a => (by simp only [go_sem]) | refine And.intro ?_ ?_); done) | fail) ?_ | fail)
    rw [ha]
    (first | refine ret_pure ?_ ?_ ?_ | refine ret_ro ?_ ?_ ?_); focus exact (by simp only [Try.results30, resOkL, resOk, Try.ntmps30, List.toList_toArray]; first | decide | (simp only [go_sem]; done) | (simp only [go_sem]; and_intros <;> first | omega | rfl | decide))
    rotate_left; focus exact (by repeat (first | exact Fr.rfl' _ _ | assumption | refine Fr.updk ?_ (by omega) _))
    simp only [resA, resV, Try.results30, go_sem]
    all_goals try (first | exact Co.t2 (.dat rfl) (.dat rfl) | exact Co.t3 (.dat rfl) (.dat rfl) (.dat rfl))
  | true =>
    have ho2 : clsOk g [c] = 0 := by simpa using ho
    have ha : alwAns g c = (alwB c, 0) := by unfold alwAns; rw [if_neg (by simp [ho2])]
    repeat' (first | refine awp_seq_k fun K hK => ?_ | ((first | refine awp_region_k (by kernel_rfl) fun R hR => ?_ | refine awp_draw mixed (by kernel_rfl) (by kernel_rfl) fun R hR => ?_); simp only [go_sem, ho2, bne_self_eq_false]) | ((first | (refine hR _ ?_; clear hR R) | refine awp_skip ?_ | refine awp_exit ?_ | refine awp_ret ?_); try simp only [thenA, inBlockA, reduceIte, reduceCtorEq, Nat.reduceEqDiff, if_false, if_true]) | ((first | refine hK _ ?_ | (clear hK K; first | refine hK _ ?_ | (clear hK K; first | refine hK _ ?_ | (clear hK K; first | refine hK _ ?_ | (clear hK K; refine hK _ ?_))))); clear hK K) | refine awp_true rfl rfl ?_ | refine awp_false rfl rfl ?_ | refine awp_block ?_ | ((first | refine CallK.pure (enter87) (one_tri g c hc) ?_ ?_ | refine CallD.pure (enter87) (one_tri g c hc) ?_ ?_ | refine CallK.pure (enter89) (isAlways_tri c hc) ?_ ?_ | refine CallD.pure (enter89) (isAlways_tri c hc) ?_ ?_); (focus first | ((repeat (first | exact trivial | refine ⟨(by first | exact Or.inl rfl | exact Or.inr rfl), ?_⟩)); done) | (simp only [coL, AV.dat, true_or, or_true, AV.d.injEq, go_sem]; done)); simp only [go_sem, ho2, bne_self_eq_false]) | refine And.intro (by first | ((repeat' first | omega | exact trivial | rfl | assumption | (intro a e; subst e; rfl) | exact map_sz fun a => (by simp only [go_sem]) | refine And.intro ?_ ?_); done) | fail) ?_ | fail)
    rw [ha]
    (first | refine ret_pure ?_ ?_ ?_ | refine ret_ro ?_ ?_ ?_); focus exact (by simp only [Try.results30, resOkL, resOk, Try.ntmps30, List.toList_toArray]; first | decide | (simp only [go_sem]; done) | (simp only [go_sem]; and_intros <;> first | omega | rfl | decide))
    rotate_left; focus exact (by repeat (first | exact Fr.rfl' _ _ | assumption | refine Fr.updk ?_ (by omega) _))
    simp only [resA, resV, Try.results30, go_sem]
    all_goals try (first | exact Co.t2 (.dat rfl) (.dat rfl) | exact Co.t3 (.dat rfl) (.dat rfl) (.dat rfl))
end Go.Proofs.Ytmeekpinkfpnhaa
namespace Go.Proofs.Ytmeekpinkfpnhaa
open Go.RowKit
theorem mapLt_take {f : Tm → Tm} {c : List Lt} {i : Nat} (hi : i < c.length) : (c.take (i + 1)).map (mapLt f) = (c.take i).map (mapLt f) ++ [mapLt f c[i]] := by
  rw [List.take_succ_eq_append_getElem hi, List.map_append]; rfl
@[go_sem] theorem mapLt_DV (f : Tm → Tm) (l : Lt) : DV.st [bD l.y, iD (f l.a).v, iD (f l.a).f, .sl ((f l.a).us.map tmDV), iD (f l.b).v, iD (f l.b).f, .sl ((f l.b).us.map tmDV)] = ltDV (mapLt f l) := (Eq.trans rfl (Eq.refl _))
section
variable (g : FuncId) (caps : List AV) (ro : List (Nm × Ob)) (f : Tm → Tm) (hg : enterOk Try.prog g)
include hg
set_option maxHeartbeats 1000000 in
set_option maxRecDepth 20000 in
theorem each_tri (hne : ro ≠ []) (c : List Lt) (hc : c.length ≤ 4000000) (hdo : ∀ l ∈ c, Tri Try.prog g ([.d (tmDV l.a)] ++ caps) (rdE ro (.d (tmDV (f l.a)))) ∧ Tri Try.prog g ([.d (tmDV l.b)] ++ caps) (rdE ro (.d (tmDV (f l.b))))) :
    Tri Try.prog 119 [.d (clDV c), .fn (.func g) [] caps] (rdE ro (.d (clDV (c.map (mapLt f))))) := by
  refine tri_enter_ro Try.func119 rfl Try.ntmps119 (by simp only [List.length_cons, List.length_nil]; omega) fun w0 h0 k hro => ?_
  repeat' (first | refine awp_ghost (ghost_nil (i := 5) (e := 107) rfl) ?_ | refine awp_seq_k fun K hK => ?_ | ((first | refine awp_region_k (by kernel_rfl) fun R hR => ?_ | refine awp_draw mixed (by kernel_rfl) (by kernel_rfl) fun R hR => ?_); simp only [go_sem]) | ((first | (refine hR _ ?_; clear hR R) | refine awp_skip ?_ | refine awp_exit ?_ | refine awp_ret ?_); try simp only [thenA, inBlockA, reduceIte, reduceCtorEq, Nat.reduceEqDiff, if_false, if_true]) | ((first | refine hK _ ?_ | (clear hK K; first | refine hK _ ?_ | (clear hK K; first | refine hK _ ?_ | (clear hK K; first | refine hK _ ?_ | (clear hK K; refine hK _ ?_))))); clear hK K) | refine awp_true rfl rfl ?_ | refine awp_false rfl rfl ?_ | refine awp_block ?_ | refine And.intro (by first | ((repeat' first | omega | exact trivial | rfl | assumption | (intro a e; subst e; rfl) | exact map_sz fun a => (by simp only [go_sem]) | refine And.intro ?_ ?_); done) | fail) ?_ | fail)
  refine awp_loop (fun σ => ∃ i : Nat, σ.t 1 = .fn (.func g) [] caps ∧ σ.t 5 = .own (k + 1 + 1, 0) (((c.take i).map (mapLt f)).map ltDV) ∧ σ.t 8 = .d (clDV c) ∧ σ.t 9 = iA c.length ∧ σ.t 10 = iA i ∧
    σ.h (k + 1 + 1, 0) = some (.perm 107 ((c.take i).map (mapLt f)).length) ∧ Fr k h0 σ.h ∧ k + 1 + 1 < σ.k ∧ i ≤ c.length) (fun σ => c.length - (intOf' (σ.t 10)).toNat) ?_ ?_
  · refine ⟨0, ?_⟩
    simp only [go_sem, List.take_zero, List.map_nil]
    and_intros; all_goals try (first | rfl | omega | assumption | ((repeat (first | exact Fr.rfl' _ _ | assumption | refine Fr.updk ?_ (by omega) _)); done))
  · rintro σ ⟨i, s1, s5, s8, s9, s10, sh, hF, hk, hi⟩
    have hne2 := ltne hk
    have hml : ((c.take i).map (mapLt f)).length = i := by rw [List.length_map, List.length_take]; omega
    rcases Nat.lt_or_ge i c.length with hlt | hge
    · have hz : (i : Int) < (c.length : Int) := by omega
      have e1 : (c.map ltDV).getD i default = ltDV c[i] := nth_map ltDV hlt _
      obtain ⟨d1, d2⟩ := hdo _ (List.getElem_mem hlt)
      have etk : ((c.take i).map (mapLt f)).map ltDV ++ [ltDV (mapLt f c[i])] = ((c.take (i + 1)).map (mapLt f)).map ltDV := by rw [mapLt_take hlt]; simp
      repeat' (first | refine awp_seq_k fun K hK => ?_ | ((first | refine awp_region_k (by kernel_rfl) fun R hR => ?_ | refine awp_draw mixed (by kernel_rfl) (by kernel_rfl) fun R hR => ?_); simp only [go_sem, s1, s5, s8, s9, s10, sh, hz, e1, hne2, hml, List.length_map, Int.toNat_natCast]) | ((first | (refine hR _ ?_; clear hR R) | refine awp_skip ?_ | refine awp_exit ?_ | refine awp_ret ?_); try simp only [thenA, inBlockA, reduceIte, reduceCtorEq, Nat.reduceEqDiff, if_false, if_true]) | ((first | refine hK _ ?_ | (clear hK K; first | refine hK _ ?_ | (clear hK K; first | refine hK _ ?_ | (clear hK K; first | refine hK _ ?_ | (clear hK K; refine hK _ ?_))))); clear hK K) | refine awp_true rfl rfl ?_ | refine awp_false rfl rfl ?_ | refine awp_block ?_ | ((first | refine CallK.vlook rfl (hg) (d1) ?_ (by assumption) (by repeat (first | exact Fr.rfl' _ _ | assumption | refine Fr.updk ?_ (by omega) _)) ?_ | refine CallD.vlook rfl (hg) (d1) ?_ (by assumption) (by repeat (first | exact Fr.rfl' _ _ | assumption | refine Fr.updk ?_ (by omega) _)) (by first | assumption | exact List.cons_ne_nil _ _) ?_); (focus first | ((repeat (first | exact trivial | refine ⟨(by first | exact Or.inl rfl | exact Or.inr rfl), ?_⟩)); done) | (simp only [coL, AV.dat, true_or, or_true, AV.d.injEq, go_sem]; done)); simp only [go_sem, s1, s5, s8, s9, s10, sh, hz, e1, hne2, hml, List.length_map, Int.toNat_natCast]) | ((first | refine CallK.vlook rfl (hg) (d2) ?_ (by assumption) (by repeat (first | exact Fr.rfl' _ _ | assumption | refine Fr.updk ?_ (by omega) _)) ?_ | refine CallD.vlook rfl (hg) (d2) ?_ (by assumption) (by repeat (first | exact Fr.rfl' _ _ | assumption | refine Fr.updk ?_ (by omega) _)) (by first | assumption | exact List.cons_ne_nil _ _) ?_); (focus first | ((repeat (first | exact trivial | refine ⟨(by first | exact Or.inl rfl | exact Or.inr rfl), ?_⟩)); done) | (simp only [coL, AV.dat, true_or, or_true, AV.d.injEq, go_sem]; done)); simp only [go_sem, s1, s5, s8, s9, s10, sh, hz, e1, hne2, hml, List.length_map, Int.toNat_natCast]) | refine And.intro (by first | ((repeat' first | omega | exact trivial | rfl | assumption | (intro a e; subst e; rfl) | exact map_sz fun a => (by simp only [go_sem]) | refine And.intro ?_ ?_); done) | fail) ?_ | fail)
      refine ⟨⟨i + 1, ?_⟩, ?_⟩
      rotate_left
      · simp only [go_sem, s1, s5, s8, s9, s10, sh, hne2, etk, hml, List.length_map]; omega
      simp only [go_sem, s1, s5, s8, s9, s10, sh, hne2, etk, hml, List.length_map]
      and_intros; all_goals try (first | rfl | omega | assumption | ((repeat (first | exact Fr.rfl' _ _ | assumption | refine Fr.updk ?_ (by omega) _)); done))
    · have hz : ¬ ((i : Int) < (c.length : Int)) := by omega
      obtain rfl : i = c.length := by omega
      rw [List.take_length] at s5 sh
      repeat' (first | refine awp_seq_k fun K hK => ?_ | ((first | refine awp_region_k (by kernel_rfl) fun R hR => ?_ | refine awp_draw mixed (by kernel_rfl) (by kernel_rfl) fun R hR => ?_); simp only [go_sem, s5, s9, s10, sh, hz]) | ((first | (refine hR _ ?_; clear hR R) | refine awp_skip ?_ | refine awp_exit ?_ | refine awp_ret ?_); try simp only [thenA, inBlockA, reduceIte, reduceCtorEq, Nat.reduceEqDiff, if_false, if_true]) | ((first | refine hK _ ?_ | (clear hK K; first | refine hK _ ?_ | (clear hK K; first | refine hK _ ?_ | (clear hK K; first | refine hK _ ?_ | (clear hK K; refine hK _ ?_))))); clear hK K) | refine awp_true rfl rfl ?_ | refine awp_false rfl rfl ?_ | refine awp_block ?_ | refine And.intro (by first | ((repeat' first | omega | exact trivial | rfl | assumption | (intro a e; subst e; rfl) | exact map_sz fun a => (by simp only [go_sem]) | refine And.intro ?_ ?_); done) | fail) ?_ | fail)
      (first | refine ret_pure ?_ ?_ ?_ | refine ret_ro ?_ ?_ ?_); focus exact (by simp only [Try.results119, resOkL, resOk, Try.ntmps119, List.toList_toArray]; first | decide | (simp only [go_sem, s5]; done) | (simp only [go_sem, s5]; and_intros <;> first | omega | rfl | decide))
      rotate_left; focus exact (by repeat (first | exact Fr.rfl' _ _ | assumption | refine Fr.updk ?_ (by omega) _))
      simp only [resA, resV, Try.results119, go_sem, s5]
      all_goals try (first | exact Co.t2 (.dat rfl) (.dat rfl) | exact Co.t3 (.dat rfl) (.dat rfl) (.dat rfl))
      all_goals exact .dat rfl
end
end Go.Proofs.Ytmeekpinkfpnhaa
namespace Go.Proofs.Ytmeekpinkfpnhaa
open Go.RowKit
set_option maxRecDepth 20000 in
theorem neat1_tri (b : Nm) (l x : Lt) : Tri Try.prog 117 [.d (ltDV x), .ptr b 0] (rdE (ltO b l) (bA (x.y == l.y && sidesB x l))) := by
  refine tri_enter_ro Try.func117 rfl Try.ntmps117 (by simp only [List.length_cons, List.length_nil]; omega) fun w0 h0 k hro => ?_
  obtain ⟨n1, eb⟩ := hro.get _ (List.mem_cons_self ..)
  have q1 := nmne n1
  cases hy : (x.y == l.y) with
  | false =>
    repeat' (first | refine awp_seq_k fun K hK => ?_ | ((first | refine awp_region_k (by kernel_rfl) fun R hR => ?_ | refine awp_draw mixed (by kernel_rfl) (by kernel_rfl) fun R hR => ?_); simp only [go_sem, eb, q1, hy]) | ((first | (refine hR _ ?_; clear hR R) | refine awp_skip ?_ | refine awp_exit ?_ | refine awp_ret ?_); try simp only [thenA, inBlockA, reduceIte, reduceCtorEq, Nat.reduceEqDiff, if_false, if_true]) | ((first | refine hK _ ?_ | (clear hK K; first | refine hK _ ?_ | (clear hK K; first | refine hK _ ?_ | (clear hK K; first | refine hK _ ?_ | (clear hK K; refine hK _ ?_))))); clear hK K) | refine awp_true rfl rfl ?_ | refine awp_false rfl rfl ?_ | refine awp_block ?_ | refine And.intro (by first | ((repeat' first | omega | exact trivial | rfl | assumption | (intro a e; subst e; rfl) | exact map_sz fun a => (by simp only [go_sem]) | refine And.intro ?_ ?_); done) | fail) ?_ | fail)
    (first | refine ret_pure ?_ ?_ ?_ | refine ret_ro ?_ ?_ ?_); focus exact (by simp only [Try.results117, resOkL, resOk, Try.ntmps117, List.toList_toArray]; first | decide | (simp only [go_sem]; done) | (simp only [go_sem]; and_intros <;> first | omega | rfl | decide))
    rotate_left; focus exact (by repeat (first | exact Fr.rfl' _ _ | assumption | refine Fr.updk ?_ (by omega) _))
    simp only [resA, resV, Try.results117, go_sem]
    all_goals try (first | exact Co.t2 (.dat rfl) (.dat rfl) | exact Co.t3 (.dat rfl) (.dat rfl) (.dat rfl))
    exact .dat rfl
  | true =>
    repeat' (first | refine awp_seq_k fun K hK => ?_ | ((first | refine awp_region_k (by kernel_rfl) fun R hR => ?_ | refine awp_draw mixed (by kernel_rfl) (by kernel_rfl) fun R hR => ?_); simp only [go_sem, eb, q1, hy]) | ((first | (refine hR _ ?_; clear hR R) | refine awp_skip ?_ | refine awp_exit ?_ | refine awp_ret ?_); try simp only [thenA, inBlockA, reduceIte, reduceCtorEq, Nat.reduceEqDiff, if_false, if_true]) | ((first | refine hK _ ?_ | (clear hK K; first | refine hK _ ?_ | (clear hK K; first | refine hK _ ?_ | (clear hK K; first | refine hK _ ?_ | (clear hK K; refine hK _ ?_))))); clear hK K) | refine awp_true rfl rfl ?_ | refine awp_false rfl rfl ?_ | refine awp_block ?_ | ((first | refine CallK.pure (enter118) (sides_tri x l) ?_ ?_ | refine CallD.pure (enter118) (sides_tri x l) ?_ ?_); (focus first | ((repeat (first | exact trivial | refine ⟨(by first | exact Or.inl rfl | exact Or.inr rfl), ?_⟩)); done) | (simp only [coL, AV.dat, true_or, or_true, AV.d.injEq, go_sem]; done)); simp only [go_sem, eb, q1, hy]) | refine And.intro (by first | ((repeat' first | omega | exact trivial | rfl | assumption | (intro a e; subst e; rfl) | exact map_sz fun a => (by simp only [go_sem]) | refine And.intro ?_ ?_); done) | fail) ?_ | fail)
    (first | refine ret_pure ?_ ?_ ?_ | refine ret_ro ?_ ?_ ?_); focus exact (by simp only [Try.results117, resOkL, resOk, Try.ntmps117, List.toList_toArray]; first | decide | (simp only [go_sem]; done) | (simp only [go_sem]; and_intros <;> first | omega | rfl | decide))
    rotate_left; focus exact (by repeat (first | exact Fr.rfl' _ _ | assumption | refine Fr.updk ?_ (by omega) _))
    simp only [resA, resV, Try.results117, go_sem]
    all_goals try (first | exact Co.t2 (.dat rfl) (.dat rfl) | exact Co.t3 (.dat rfl) (.dat rfl) (.dat rfl))
    exact .dat rfl
set_option maxRecDepth 20000 in
theorem neat2_tri (b mm : Nm) (bs : Bs) (hbs : ∀ p ∈ bs, p.2.size ≤ 4000000) (t : Tm) (ht : t.size ≤ 4000000) : Tri Try.prog 120 [.d (tmDV t), .ptr b 0] (rdE (bsO b mm bs) (.d (tmDV (mapM (madeS bs) t)))) := by
  refine tri_enter_ro Try.func120 rfl Try.ntmps120 (by simp only [List.length_cons, List.length_nil]; omega) fun w0 h0 k hro => ?_
  obtain ⟨n1, eb⟩ := hro.get _ (List.mem_cons_self ..)
  obtain ⟨n2, em⟩ := hro.get _ (List.mem_cons_of_mem _ (List.mem_cons_self ..))
  have q1 := nmne n1
  have q2 := nmne n2
  have h := made_tri mm bs hbs t ht
  repeat' (first | refine awp_seq_k fun K hK => ?_ | ((first | refine awp_region_k (by kernel_rfl) fun R hR => ?_ | refine awp_draw mixed (by kernel_rfl) (by kernel_rfl) fun R hR => ?_); simp only [go_sem, eb, em, q1, q2]) | ((first | (refine hR _ ?_; clear hR R) | refine awp_skip ?_ | refine awp_exit ?_ | refine awp_ret ?_); try simp only [thenA, inBlockA, reduceIte, reduceCtorEq, Nat.reduceEqDiff, if_false, if_true]) | ((first | refine hK _ ?_ | (clear hK K; first | refine hK _ ?_ | (clear hK K; first | refine hK _ ?_ | (clear hK K; first | refine hK _ ?_ | (clear hK K; refine hK _ ?_))))); clear hK K) | refine awp_true rfl rfl ?_ | refine awp_false rfl rfl ?_ | refine awp_block ?_ | ((first | refine CallK.look (enter121) (h) ?_ (⟨fun x hx => by simp only [List.mem_cons, List.not_mem_nil, or_false] at hx; subst hx; exact ⟨Nat.lt_succ_of_lt n2, by simp only [go_sem, em, q2]⟩⟩) (Fr.rfl' _ _) ?_ | refine CallD.look (enter121) (h) ?_ (⟨fun x hx => by simp only [List.mem_cons, List.not_mem_nil, or_false] at hx; subst hx; exact ⟨Nat.lt_succ_of_lt n2, by simp only [go_sem, em, q2]⟩⟩) (Fr.rfl' _ _) (by first | assumption | exact List.cons_ne_nil _ _) ?_); (focus first | ((repeat (first | exact trivial | refine ⟨(by first | exact Or.inl rfl | exact Or.inr rfl), ?_⟩)); done) | (simp only [coL, AV.dat, true_or, or_true, AV.d.injEq, go_sem]; done)); simp only [go_sem, eb, em, q1, q2]) | refine And.intro (by first | ((repeat' first | omega | exact trivial | rfl | assumption | (intro a e; subst e; rfl) | exact map_sz fun a => (by simp only [go_sem]) | refine And.intro ?_ ?_); done) | fail) ?_ | fail)
  (first | refine ret_pure ?_ ?_ ?_ | refine ret_ro ?_ ?_ ?_); focus exact (by simp only [Try.results120, resOkL, resOk, Try.ntmps120, List.toList_toArray]; first | decide | (simp only [go_sem]; done) | (simp only [go_sem]; and_intros <;> first | omega | rfl | decide))
  rotate_left; focus exact (by repeat (first | exact Fr.rfl' _ _ | assumption | refine Fr.updk ?_ (by omega) _))
  simp only [resA, resV, Try.results120, go_sem]
  all_goals try (first | exact Co.t2 (.dat rfl) (.dat rfl) | exact Co.t3 (.dat rfl) (.dat rfl) (.dat rfl))
  all_goals exact co_tm' rfl
set_option maxHeartbeats 1000000 in
set_option maxRecDepth 20000 in
theorem applyClause_tri (bs : Bs) (hbs : bs.length ≤ 4000000) (c : List Lt) (hc : c.length ≤ 4000000) (hs : ∀ l ∈ c, l.a.size ≤ 4000000 ∧ l.b.size ≤ 4000000) : Tri Try.prog 92 [.d (bsDV bs), .d (clDV c)] (pure' (.d (clDV (c.map (mapLt (applyR bs)))))) := by
  refine tri_enter Try.func92 rfl Try.ntmps92 (by simp only [List.length_cons, List.length_nil]; omega) fun w0 h0 k hrd hwr => ?_
  repeat' (first | refine awp_ghost (ghost_nil (i := 5) (e := 107) rfl) ?_ | refine awp_seq_k fun K hK => ?_ | ((first | refine awp_region_k (by kernel_rfl) fun R hR => ?_ | refine awp_draw mixed (by kernel_rfl) (by kernel_rfl) fun R hR => ?_); simp only [go_sem]) | ((first | (refine hR _ ?_; clear hR R) | refine awp_skip ?_ | refine awp_exit ?_ | refine awp_ret ?_); try simp only [thenA, inBlockA, reduceIte, reduceCtorEq, Nat.reduceEqDiff, if_false, if_true]) | ((first | refine hK _ ?_ | (clear hK K; first | refine hK _ ?_ | (clear hK K; first | refine hK _ ?_ | (clear hK K; first | refine hK _ ?_ | (clear hK K; refine hK _ ?_))))); clear hK K) | refine awp_true rfl rfl ?_ | refine awp_false rfl rfl ?_ | refine awp_block ?_ | refine And.intro (by first | ((repeat' first | omega | exact trivial | rfl | assumption | (intro a e; subst e; rfl) | exact map_sz fun a => (by simp only [go_sem]) | refine And.intro ?_ ?_); done) | fail) ?_ | fail)
  refine awp_loop (fun σ => ∃ i : Nat, σ.t 0 = .d (bsDV bs) ∧ σ.t 1 = .d (clDV c) ∧ σ.t 5 = .own (k + 1 + 1, 0) (((c.take i).map (mapLt (applyR bs))).map ltDV) ∧ σ.t 6 = iA i ∧
    σ.h (k + 1 + 1, 0) = some (.perm 107 ((c.take i).map (mapLt (applyR bs))).length) ∧ Fr k h0 σ.h ∧ k + 1 + 1 < σ.k ∧ i ≤ c.length) (fun σ => c.length - (intOf' (σ.t 6)).toNat) ?_ ?_
  · refine ⟨0, ?_⟩
    simp only [go_sem, List.take_zero, List.map_nil]
    and_intros; all_goals try (first | rfl | omega | assumption | ((repeat (first | exact Fr.rfl' _ _ | assumption | refine Fr.updk ?_ (by omega) _)); done))
  · rintro σ ⟨i, s0, s1, s5, s6, sh, hF, hk, hi⟩
    have hne2 := ltne hk
    have hml : ((c.take i).map (mapLt (applyR bs))).length = i := by rw [List.length_map, List.length_take]; omega
    rcases Nat.lt_or_ge i c.length with hlt | hge
    · have hz : (i : Int) < (c.length : Int) := by omega
      have e1 : (c.map ltDV).getD i default = ltDV c[i] := nth_map ltDV hlt _
      obtain ⟨z1, z2⟩ := hs _ (List.getElem_mem hlt)
      have d1 := apply_tri bs hbs c[i].a z1
      have d2 := apply_tri bs hbs c[i].b z2
      have etk : ((c.take i).map (mapLt (applyR bs))).map ltDV ++ [ltDV (mapLt (applyR bs) c[i])] = ((c.take (i + 1)).map (mapLt (applyR bs))).map ltDV := by rw [mapLt_take hlt]; simp
      repeat' (first | refine awp_seq_k fun K hK => ?_ | ((first | refine awp_region_k (by kernel_rfl) fun R hR => ?_ | refine awp_draw mixed (by kernel_rfl) (by kernel_rfl) fun R hR => ?_); simp only [go_sem, s0, s1, s5, s6, sh, hz, e1, hne2, hml, List.length_map, Int.toNat_natCast]) | ((first | (refine hR _ ?_; clear hR R) | refine awp_skip ?_ | refine awp_exit ?_ | refine awp_ret ?_); try simp only [thenA, inBlockA, reduceIte, reduceCtorEq, Nat.reduceEqDiff, if_false, if_true]) | ((first | refine hK _ ?_ | (clear hK K; first | refine hK _ ?_ | (clear hK K; first | refine hK _ ?_ | (clear hK K; first | refine hK _ ?_ | (clear hK K; refine hK _ ?_))))); clear hK K) | refine awp_true rfl rfl ?_ | refine awp_false rfl rfl ?_ | refine awp_block ?_ | ((first | refine CallK.pure (enter101) (d1) ?_ ?_ | refine CallD.pure (enter101) (d1) ?_ ?_); (focus first | ((repeat (first | exact trivial | refine ⟨(by first | exact Or.inl rfl | exact Or.inr rfl), ?_⟩)); done) | (simp only [coL, AV.dat, true_or, or_true, AV.d.injEq, go_sem]; done)); simp only [go_sem, s0, s1, s5, s6, sh, hz, e1, hne2, hml, List.length_map, Int.toNat_natCast]) | ((first | refine CallK.pure (enter101) (d2) ?_ ?_ | refine CallD.pure (enter101) (d2) ?_ ?_); (focus first | ((repeat (first | exact trivial | refine ⟨(by first | exact Or.inl rfl | exact Or.inr rfl), ?_⟩)); done) | (simp only [coL, AV.dat, true_or, or_true, AV.d.injEq, go_sem]; done)); simp only [go_sem, s0, s1, s5, s6, sh, hz, e1, hne2, hml, List.length_map, Int.toNat_natCast]) | refine And.intro (by first | ((repeat' first | omega | exact trivial | rfl | assumption | (intro a e; subst e; rfl) | exact map_sz fun a => (by simp only [go_sem]) | refine And.intro ?_ ?_); done) | fail) ?_ | fail)
      refine ⟨⟨i + 1, ?_⟩, ?_⟩
      rotate_left
      · simp only [go_sem, s0, s1, s5, s6, sh, hne2, etk, hml, List.length_map]; omega
      simp only [go_sem, s0, s1, s5, s6, sh, hne2, etk, hml, List.length_map]
      and_intros; all_goals try (first | rfl | omega | assumption | ((repeat (first | exact Fr.rfl' _ _ | assumption | refine Fr.updk ?_ (by omega) _)); done))
    · have hz : ¬ ((i : Int) < (c.length : Int)) := by omega
      obtain rfl : i = c.length := by omega
      rw [List.take_length] at s5 sh
      repeat' (first | refine awp_seq_k fun K hK => ?_ | ((first | refine awp_region_k (by kernel_rfl) fun R hR => ?_ | refine awp_draw mixed (by kernel_rfl) (by kernel_rfl) fun R hR => ?_); simp only [go_sem, s0, s1, s5, s6, sh, hz]) | ((first | (refine hR _ ?_; clear hR R) | refine awp_skip ?_ | refine awp_exit ?_ | refine awp_ret ?_); try simp only [thenA, inBlockA, reduceIte, reduceCtorEq, Nat.reduceEqDiff, if_false, if_true]) | ((first | refine hK _ ?_ | (clear hK K; first | refine hK _ ?_ | (clear hK K; first | refine hK _ ?_ | (clear hK K; first | refine hK _ ?_ | (clear hK K; refine hK _ ?_))))); clear hK K) | refine awp_true rfl rfl ?_ | refine awp_false rfl rfl ?_ | refine awp_block ?_ | refine And.intro (by first | ((repeat' first | omega | exact trivial | rfl | assumption | (intro a e; subst e; rfl) | exact map_sz fun a => (by simp only [go_sem]) | refine And.intro ?_ ?_); done) | fail) ?_ | fail)
      (first | refine ret_pure ?_ ?_ ?_ | refine ret_ro ?_ ?_ ?_); focus exact (by simp only [Try.results92, resOkL, resOk, Try.ntmps92, List.toList_toArray]; first | decide | (simp only [go_sem, s5]; done) | (simp only [go_sem, s5]; and_intros <;> first | omega | rfl | decide))
      rotate_left; focus exact (by repeat (first | exact Fr.rfl' _ _ | assumption | refine Fr.updk ?_ (by omega) _))
      simp only [resA, resV, Try.results92, go_sem, s5]
      all_goals try (first | exact Co.t2 (.dat rfl) (.dat rfl) | exact Co.t3 (.dat rfl) (.dat rfl) (.dat rfl))
      all_goals exact .dat rfl
def sameC : List Lt → List Lt → Bool
  | [], [] => true
  | x :: xs, y :: ys => x.y == y.y && same x.a y.a && same x.b y.b && sameC xs ys
  | _, _ => false
theorem sameC_iff : ∀ a b : List Lt, sameC a b = true ↔ a = b
  | [], [] => by simp [sameC]
  | [], _ :: _ => by simp [sameC]
  | _ :: _, [] => by simp [sameC]
  | x :: xs, y :: ys => by
    rw [sameC, Bool.and_eq_true, Bool.and_eq_true, Bool.and_eq_true, beq_iff_eq, same_iff, same_iff, sameC_iff xs ys]
    obtain ⟨x1, x2, x3⟩ := x
    obtain ⟨y1, y2, y3⟩ := y
    simp only [List.cons.injEq, Lt.mk.injEq]
    constructor
    · rintro ⟨⟨⟨h1, h2⟩, h3⟩, h4⟩; exact ⟨⟨h1, h2, h3⟩, h4⟩
    · rintro ⟨⟨h1, h2, h3⟩, h4⟩; exact ⟨⟨⟨h1, h2⟩, h3⟩, h4⟩
theorem sameC_rfl (a : List Lt) : sameC a a = true := (sameC_iff a a).2 rfl
theorem sameC_len {a b : List Lt} (h : a.length ≠ b.length) : sameC a b = false := by
  rw [← Bool.not_eq_true, sameC_iff]; rintro rfl; exact h rfl
theorem sameC_at {a b : List Lt} {i : Nat} (hi : i < a.length) (hi' : i < b.length) : sameC (a.drop i) (b.drop i) = (a[i].y == b[i].y && same a[i].a b[i].a && same a[i].b b[i].b && sameC (a.drop (i + 1)) (b.drop (i + 1))) := by
  rw [List.drop_eq_getElem_cons hi, List.drop_eq_getElem_cons hi', sameC]
set_option maxHeartbeats 1000000 in
set_option maxRecDepth 20000 in
theorem sameClause_tri (a b : List Lt) (ha : a.length ≤ 4000000) : Tri Try.prog 38 [.d (clDV a), .d (clDV b)] (pure' (bA (sameC a b))) := by
  refine tri_enter Try.func38 rfl Try.ntmps38 (by simp only [List.length_cons, List.length_nil]; omega) fun w0 h0 k hrd hwr => ?_
  cases h1 : ((a.length : Int) != (b.length : Int)) with
  | true =>
    rw [sameC_len (by simp at h1; omega)]
    repeat' (first | refine awp_seq_k fun K hK => ?_ | ((first | refine awp_region_k (by kernel_rfl) fun R hR => ?_ | refine awp_draw mixed (by kernel_rfl) (by kernel_rfl) fun R hR => ?_); simp only [go_sem, h1]) | ((first | (refine hR _ ?_; clear hR R) | refine awp_skip ?_ | refine awp_exit ?_ | refine awp_ret ?_); try simp only [thenA, inBlockA, reduceIte, reduceCtorEq, Nat.reduceEqDiff, if_false, if_true]) | ((first | refine hK _ ?_ | (clear hK K; first | refine hK _ ?_ | (clear hK K; first | refine hK _ ?_ | (clear hK K; first | refine hK _ ?_ | (clear hK K; refine hK _ ?_))))); clear hK K) | refine awp_true rfl rfl ?_ | refine awp_false rfl rfl ?_ | refine awp_block ?_ | refine And.intro (by first | ((repeat' first | omega | exact trivial | rfl | assumption | (intro a e; subst e; rfl) | exact map_sz fun a => (by simp only [go_sem]) | refine And.intro ?_ ?_); done) | fail) ?_ | fail)
    (first | refine ret_pure ?_ ?_ ?_ | refine ret_ro ?_ ?_ ?_); focus exact (by simp only [Try.results38, resOkL, resOk, Try.ntmps38, List.toList_toArray]; first | decide | (simp only [go_sem]; done) | (simp only [go_sem]; and_intros <;> first | omega | rfl | decide))
    rotate_left; focus exact (by repeat (first | exact Fr.rfl' _ _ | assumption | refine Fr.updk ?_ (by omega) _))
    simp only [resA, resV, Try.results38, go_sem]
    all_goals try (first | exact Co.t2 (.dat rfl) (.dat rfl) | exact Co.t3 (.dat rfl) (.dat rfl) (.dat rfl))
    all_goals exact .dat rfl
  | false =>
    have hll : a.length = b.length := by simp at h1; omega
    repeat' (first | refine awp_seq_k fun K hK => ?_ | ((first | refine awp_region_k (by kernel_rfl) fun R hR => ?_ | refine awp_draw mixed (by kernel_rfl) (by kernel_rfl) fun R hR => ?_); simp only [go_sem, h1]) | ((first | (refine hR _ ?_; clear hR R) | refine awp_skip ?_ | refine awp_exit ?_ | refine awp_ret ?_); try simp only [thenA, inBlockA, reduceIte, reduceCtorEq, Nat.reduceEqDiff, if_false, if_true]) | ((first | refine hK _ ?_ | (clear hK K; first | refine hK _ ?_ | (clear hK K; first | refine hK _ ?_ | (clear hK K; first | refine hK _ ?_ | (clear hK K; refine hK _ ?_))))); clear hK K) | refine awp_true rfl rfl ?_ | refine awp_false rfl rfl ?_ | refine awp_block ?_ | refine And.intro (by first | ((repeat' first | omega | exact trivial | rfl | assumption | (intro a e; subst e; rfl) | exact map_sz fun a => (by simp only [go_sem]) | refine And.intro ?_ ?_); done) | fail) ?_ | fail)
    refine awp_loop (fun σ => ∃ i : Nat, σ.t 0 = .d (clDV a) ∧ σ.t 1 = .d (clDV b) ∧ σ.t 5 = iA i ∧ σ.h = h0 ∧ i ≤ a.length ∧ sameC (a.drop i) (b.drop i) = sameC a b) (fun σ => a.length - (intOf' (σ.t 5)).toNat) ?_ ?_
    · refine ⟨0, ?_⟩
      simp only [go_sem, List.drop_zero]
      and_intros; all_goals try (first | rfl | omega | assumption | ((repeat (first | exact Fr.rfl' _ _ | assumption | refine Fr.updk ?_ (by omega) _)); done))
    · rintro σ ⟨i, s0, s1, s5, sh, hi, hv⟩
      have hfr : Fr k h0 σ.h := by rw [sh]; exact Fr.rfl' _ _
      rcases Nat.lt_or_ge i a.length with hlt | hge
      · have hlt' : i < b.length := by omega
        have hz : (i : Int) < (a.length : Int) := by omega
        have hz' : (i : Int) < (b.length : Int) := by omega
        have e1 : (a.map ltDV).getD i default = ltDV a[i] := nth_map ltDV hlt _
        have e2 : (b.map ltDV).getD i default = ltDV b[i] := nth_map ltDV hlt' _
        rw [sameC_at hlt hlt'] at hv
        cases hy : (a[i].y == b[i].y) with
        | false =>
          rw [hy, Bool.false_and, Bool.false_and, Bool.false_and] at hv
          repeat' (first | refine awp_seq_k fun K hK => ?_ | ((first | refine awp_region_k (by kernel_rfl) fun R hR => ?_ | refine awp_draw mixed (by kernel_rfl) (by kernel_rfl) fun R hR => ?_); simp only [go_sem, s0, s1, s5, hz, hz', e1, e2, hy, Int.toNat_natCast]) | ((first | (refine hR _ ?_; clear hR R) | refine awp_skip ?_ | refine awp_exit ?_ | refine awp_ret ?_); try simp only [thenA, inBlockA, reduceIte, reduceCtorEq, Nat.reduceEqDiff, if_false, if_true]) | ((first | refine hK _ ?_ | (clear hK K; first | refine hK _ ?_ | (clear hK K; first | refine hK _ ?_ | (clear hK K; first | refine hK _ ?_ | (clear hK K; refine hK _ ?_))))); clear hK K) | refine awp_true rfl rfl ?_ | refine awp_false rfl rfl ?_ | refine awp_block ?_ | refine And.intro (by first | ((repeat' first | omega | exact trivial | rfl | assumption | (intro a e; subst e; rfl) | exact map_sz fun a => (by simp only [go_sem]) | refine And.intro ?_ ?_); done) | fail) ?_ | fail)
          (first | refine ret_pure ?_ ?_ ?_ | refine ret_ro ?_ ?_ ?_); focus exact (by simp only [Try.results38, resOkL, resOk, Try.ntmps38, List.toList_toArray]; first | decide | (simp only [go_sem]; done) | (simp only [go_sem]; and_intros <;> first | omega | rfl | decide))
          rotate_left; focus exact (by repeat (first | exact Fr.rfl' _ _ | assumption | refine Fr.updk ?_ (by omega) _))
          simp only [resA, resV, Try.results38, go_sem]
          all_goals try (first | exact Co.t2 (.dat rfl) (.dat rfl) | exact Co.t3 (.dat rfl) (.dat rfl) (.dat rfl))
          all_goals exact co_b hv
        | true =>
          cases h2 : same a[i].a b[i].a with
          | false =>
            rw [hy, h2, Bool.true_and, Bool.false_and, Bool.false_and] at hv
            repeat' (first | refine awp_seq_k fun K hK => ?_ | ((first | refine awp_region_k (by kernel_rfl) fun R hR => ?_ | refine awp_draw mixed (by kernel_rfl) (by kernel_rfl) fun R hR => ?_); simp only [go_sem, s0, s1, s5, hz, hz', e1, e2, hy, h2, Int.toNat_natCast]) | ((first | (refine hR _ ?_; clear hR R) | refine awp_skip ?_ | refine awp_exit ?_ | refine awp_ret ?_); try simp only [thenA, inBlockA, reduceIte, reduceCtorEq, Nat.reduceEqDiff, if_false, if_true]) | ((first | refine hK _ ?_ | (clear hK K; first | refine hK _ ?_ | (clear hK K; first | refine hK _ ?_ | (clear hK K; first | refine hK _ ?_ | (clear hK K; refine hK _ ?_))))); clear hK K) | refine awp_true rfl rfl ?_ | refine awp_false rfl rfl ?_ | refine awp_block ?_ | ((first | refine CallK.pure (enter47) (sameR_tri a[i].a b[i].a) ?_ ?_ | refine CallD.pure (enter47) (sameR_tri a[i].a b[i].a) ?_ ?_); (focus first | ((repeat (first | exact trivial | refine ⟨(by first | exact Or.inl rfl | exact Or.inr rfl), ?_⟩)); done) | (simp only [coL, AV.dat, true_or, or_true, AV.d.injEq, go_sem]; done)); simp only [go_sem, s0, s1, s5, hz, hz', e1, e2, hy, h2, Int.toNat_natCast]) | refine And.intro (by first | ((repeat' first | omega | exact trivial | rfl | assumption | (intro a e; subst e; rfl) | exact map_sz fun a => (by simp only [go_sem]) | refine And.intro ?_ ?_); done) | fail) ?_ | fail)
            (first | refine ret_pure ?_ ?_ ?_ | refine ret_ro ?_ ?_ ?_); focus exact (by simp only [Try.results38, resOkL, resOk, Try.ntmps38, List.toList_toArray]; first | decide | (simp only [go_sem]; done) | (simp only [go_sem]; and_intros <;> first | omega | rfl | decide))
            rotate_left; focus exact (by repeat (first | exact Fr.rfl' _ _ | assumption | refine Fr.updk ?_ (by omega) _))
            simp only [resA, resV, Try.results38, go_sem]
            all_goals try (first | exact Co.t2 (.dat rfl) (.dat rfl) | exact Co.t3 (.dat rfl) (.dat rfl) (.dat rfl))
            all_goals exact co_b hv
          | true =>
            cases h3 : same a[i].b b[i].b with
            | false =>
              rw [hy, h2, h3, Bool.true_and, Bool.true_and, Bool.false_and] at hv
              repeat' (first | refine awp_seq_k fun K hK => ?_ | ((first | refine awp_region_k (by kernel_rfl) fun R hR => ?_ | refine awp_draw mixed (by kernel_rfl) (by kernel_rfl) fun R hR => ?_); simp only [go_sem, s0, s1, s5, hz, hz', e1, e2, hy, h2, h3, Int.toNat_natCast]) | ((first | (refine hR _ ?_; clear hR R) | refine awp_skip ?_ | refine awp_exit ?_ | refine awp_ret ?_); try simp only [thenA, inBlockA, reduceIte, reduceCtorEq, Nat.reduceEqDiff, if_false, if_true]) | ((first | refine hK _ ?_ | (clear hK K; first | refine hK _ ?_ | (clear hK K; first | refine hK _ ?_ | (clear hK K; first | refine hK _ ?_ | (clear hK K; refine hK _ ?_))))); clear hK K) | refine awp_true rfl rfl ?_ | refine awp_false rfl rfl ?_ | refine awp_block ?_ | ((first | refine CallK.pure (enter47) (sameR_tri a[i].a b[i].a) ?_ ?_ | refine CallD.pure (enter47) (sameR_tri a[i].a b[i].a) ?_ ?_); (focus first | ((repeat (first | exact trivial | refine ⟨(by first | exact Or.inl rfl | exact Or.inr rfl), ?_⟩)); done) | (simp only [coL, AV.dat, true_or, or_true, AV.d.injEq, go_sem]; done)); simp only [go_sem, s0, s1, s5, hz, hz', e1, e2, hy, h2, h3, Int.toNat_natCast]) | ((first | refine CallK.pure (enter47) (sameR_tri a[i].b b[i].b) ?_ ?_ | refine CallD.pure (enter47) (sameR_tri a[i].b b[i].b) ?_ ?_); (focus first | ((repeat (first | exact trivial | refine ⟨(by first | exact Or.inl rfl | exact Or.inr rfl), ?_⟩)); done) | (simp only [coL, AV.dat, true_or, or_true, AV.d.injEq, go_sem]; done)); simp only [go_sem, s0, s1, s5, hz, hz', e1, e2, hy, h2, h3, Int.toNat_natCast]) | refine And.intro (by first | ((repeat' first | omega | exact trivial | rfl | assumption | (intro a e; subst e; rfl) | exact map_sz fun a => (by simp only [go_sem]) | refine And.intro ?_ ?_); done) | fail) ?_ | fail)
              (first | refine ret_pure ?_ ?_ ?_ | refine ret_ro ?_ ?_ ?_); focus exact (by simp only [Try.results38, resOkL, resOk, Try.ntmps38, List.toList_toArray]; first | decide | (simp only [go_sem]; done) | (simp only [go_sem]; and_intros <;> first | omega | rfl | decide))
              rotate_left; focus exact (by repeat (first | exact Fr.rfl' _ _ | assumption | refine Fr.updk ?_ (by omega) _))
              simp only [resA, resV, Try.results38, go_sem]
              all_goals try (first | exact Co.t2 (.dat rfl) (.dat rfl) | exact Co.t3 (.dat rfl) (.dat rfl) (.dat rfl))
              all_goals exact co_b hv
            | true =>
              rw [hy, h2, h3, Bool.true_and, Bool.true_and, Bool.true_and] at hv
              repeat' (first | refine awp_seq_k fun K hK => ?_ | ((first | refine awp_region_k (by kernel_rfl) fun R hR => ?_ | refine awp_draw mixed (by kernel_rfl) (by kernel_rfl) fun R hR => ?_); simp only [go_sem, s0, s1, s5, hz, hz', e1, e2, hy, h2, h3, Int.toNat_natCast]) | ((first | (refine hR _ ?_; clear hR R) | refine awp_skip ?_ | refine awp_exit ?_ | refine awp_ret ?_); try simp only [thenA, inBlockA, reduceIte, reduceCtorEq, Nat.reduceEqDiff, if_false, if_true]) | ((first | refine hK _ ?_ | (clear hK K; first | refine hK _ ?_ | (clear hK K; first | refine hK _ ?_ | (clear hK K; first | refine hK _ ?_ | (clear hK K; refine hK _ ?_))))); clear hK K) | refine awp_true rfl rfl ?_ | refine awp_false rfl rfl ?_ | refine awp_block ?_ | ((first | refine CallK.pure (enter47) (sameR_tri a[i].a b[i].a) ?_ ?_ | refine CallD.pure (enter47) (sameR_tri a[i].a b[i].a) ?_ ?_); (focus first | ((repeat (first | exact trivial | refine ⟨(by first | exact Or.inl rfl | exact Or.inr rfl), ?_⟩)); done) | (simp only [coL, AV.dat, true_or, or_true, AV.d.injEq, go_sem]; done)); simp only [go_sem, s0, s1, s5, hz, hz', e1, e2, hy, h2, h3, Int.toNat_natCast]) | ((first | refine CallK.pure (enter47) (sameR_tri a[i].b b[i].b) ?_ ?_ | refine CallD.pure (enter47) (sameR_tri a[i].b b[i].b) ?_ ?_); (focus first | ((repeat (first | exact trivial | refine ⟨(by first | exact Or.inl rfl | exact Or.inr rfl), ?_⟩)); done) | (simp only [coL, AV.dat, true_or, or_true, AV.d.injEq, go_sem]; done)); simp only [go_sem, s0, s1, s5, hz, hz', e1, e2, hy, h2, h3, Int.toNat_natCast]) | refine And.intro (by first | ((repeat' first | omega | exact trivial | rfl | assumption | (intro a e; subst e; rfl) | exact map_sz fun a => (by simp only [go_sem]) | refine And.intro ?_ ?_); done) | fail) ?_ | fail)
              refine ⟨⟨i + 1, ?_⟩, ?_⟩
              rotate_left
              · simp only [go_sem, s0, s1, s5, sh]; omega
              simp only [go_sem, s0, s1, s5, sh]
              and_intros; all_goals try (first | rfl | omega | assumption | ((repeat (first | exact Fr.rfl' _ _ | assumption | refine Fr.updk ?_ (by omega) _)); done))
      · have hz : ¬ ((i : Int) < (a.length : Int)) := by omega
        rw [List.drop_eq_nil_of_le hge, List.drop_eq_nil_of_le (by omega), sameC] at hv
        repeat' (first | refine awp_seq_k fun K hK => ?_ | ((first | refine awp_region_k (by kernel_rfl) fun R hR => ?_ | refine awp_draw mixed (by kernel_rfl) (by kernel_rfl) fun R hR => ?_); simp only [go_sem, s0, s1, s5, hz]) | ((first | (refine hR _ ?_; clear hR R) | refine awp_skip ?_ | refine awp_exit ?_ | refine awp_ret ?_); try simp only [thenA, inBlockA, reduceIte, reduceCtorEq, Nat.reduceEqDiff, if_false, if_true]) | ((first | refine hK _ ?_ | (clear hK K; first | refine hK _ ?_ | (clear hK K; first | refine hK _ ?_ | (clear hK K; first | refine hK _ ?_ | (clear hK K; refine hK _ ?_))))); clear hK K) | refine awp_true rfl rfl ?_ | refine awp_false rfl rfl ?_ | refine awp_block ?_ | refine And.intro (by first | ((repeat' first | omega | exact trivial | rfl | assumption | (intro a e; subst e; rfl) | exact map_sz fun a => (by simp only [go_sem]) | refine And.intro ?_ ?_); done) | fail) ?_ | fail)
        (first | refine ret_pure ?_ ?_ ?_ | refine ret_ro ?_ ?_ ?_); focus exact (by simp only [Try.results38, resOkL, resOk, Try.ntmps38, List.toList_toArray]; first | decide | (simp only [go_sem]; done) | (simp only [go_sem]; and_intros <;> first | omega | rfl | decide))
        rotate_left; focus exact (by repeat (first | exact Fr.rfl' _ _ | assumption | refine Fr.updk ?_ (by omega) _))
        simp only [resA, resV, Try.results38, go_sem]
        all_goals try (first | exact Co.t2 (.dat rfl) (.dat rfl) | exact Co.t3 (.dat rfl) (.dat rfl) (.dat rfl))
        all_goals exact co_b hv
set_option maxRecDepth 20000 in
theorem clauseIs_tri (c : List Lt) (hc : c.length ≤ 4000000) (e w : Int) (want : List Lt) : Tri Try.prog 37 [.d (clDV c), iA e, iA w, .d (clDV want)] (pure' (bA (e == w && sameC c (if w ≠ 0 then [] else want)))) := by
  refine tri_enter Try.func37 rfl Try.ntmps37 (by simp only [List.length_cons, List.length_nil]; omega) fun w0 h0 k hrd hwr => ?_
  cases hw : (w != 0) with
  | true =>
    rw [if_pos (by simpa using hw)]
    cases he : (e == w) with
    | true =>
      repeat' (first | refine awp_seq_k fun K hK => ?_ | ((first | refine awp_region_k (by kernel_rfl) fun R hR => ?_ | refine awp_draw mixed (by kernel_rfl) (by kernel_rfl) fun R hR => ?_); simp only [go_sem, hw, he]) | ((first | (refine hR _ ?_; clear hR R) | refine awp_skip ?_ | refine awp_exit ?_ | refine awp_ret ?_); try simp only [thenA, inBlockA, reduceIte, reduceCtorEq, Nat.reduceEqDiff, if_false, if_true]) | ((first | refine hK _ ?_ | (clear hK K; first | refine hK _ ?_ | (clear hK K; first | refine hK _ ?_ | (clear hK K; first | refine hK _ ?_ | (clear hK K; refine hK _ ?_))))); clear hK K) | refine awp_true rfl rfl ?_ | refine awp_false rfl rfl ?_ | refine awp_block ?_ | ((first | refine CallK.pure (enter38) (sameClause_tri c [] hc) ?_ ?_ | refine CallD.pure (enter38) (sameClause_tri c [] hc) ?_ ?_); (focus first | ((repeat (first | exact trivial | refine ⟨(by first | exact Or.inl rfl | exact Or.inr rfl), ?_⟩)); done) | (simp only [coL, AV.dat, true_or, or_true, AV.d.injEq, go_sem]; done)); simp only [go_sem, hw, he]) | refine And.intro (by first | ((repeat' first | omega | exact trivial | rfl | assumption | (intro a e; subst e; rfl) | exact map_sz fun a => (by simp only [go_sem]) | refine And.intro ?_ ?_); done) | fail) ?_ | fail)
      (first | refine ret_pure ?_ ?_ ?_ | refine ret_ro ?_ ?_ ?_); focus exact (by simp only [Try.results37, resOkL, resOk, Try.ntmps37, List.toList_toArray]; first | decide | (simp only [go_sem]; done) | (simp only [go_sem]; and_intros <;> first | omega | rfl | decide))
      rotate_left; focus exact (by repeat (first | exact Fr.rfl' _ _ | assumption | refine Fr.updk ?_ (by omega) _))
      simp only [resA, resV, Try.results37, go_sem]
      all_goals try (first | exact Co.t2 (.dat rfl) (.dat rfl) | exact Co.t3 (.dat rfl) (.dat rfl) (.dat rfl))
      all_goals exact .dat rfl
    | false =>
      repeat' (first | refine awp_seq_k fun K hK => ?_ | ((first | refine awp_region_k (by kernel_rfl) fun R hR => ?_ | refine awp_draw mixed (by kernel_rfl) (by kernel_rfl) fun R hR => ?_); simp only [go_sem, hw, he]) | ((first | (refine hR _ ?_; clear hR R) | refine awp_skip ?_ | refine awp_exit ?_ | refine awp_ret ?_); try simp only [thenA, inBlockA, reduceIte, reduceCtorEq, Nat.reduceEqDiff, if_false, if_true]) | ((first | refine hK _ ?_ | (clear hK K; first | refine hK _ ?_ | (clear hK K; first | refine hK _ ?_ | (clear hK K; first | refine hK _ ?_ | (clear hK K; refine hK _ ?_))))); clear hK K) | refine awp_true rfl rfl ?_ | refine awp_false rfl rfl ?_ | refine awp_block ?_ | refine And.intro (by first | ((repeat' first | omega | exact trivial | rfl | assumption | (intro a e; subst e; rfl) | exact map_sz fun a => (by simp only [go_sem]) | refine And.intro ?_ ?_); done) | fail) ?_ | fail)
      (first | refine ret_pure ?_ ?_ ?_ | refine ret_ro ?_ ?_ ?_); focus exact (by simp only [Try.results37, resOkL, resOk, Try.ntmps37, List.toList_toArray]; first | decide | (simp only [go_sem]; done) | (simp only [go_sem]; and_intros <;> first | omega | rfl | decide))
      rotate_left; focus exact (by repeat (first | exact Fr.rfl' _ _ | assumption | refine Fr.updk ?_ (by omega) _))
      simp only [resA, resV, Try.results37, go_sem]
      all_goals try (first | exact Co.t2 (.dat rfl) (.dat rfl) | exact Co.t3 (.dat rfl) (.dat rfl) (.dat rfl))
      all_goals exact .dat rfl
  | false =>
    rw [if_neg (by simpa using hw)]
    cases he : (e == w) with
    | true =>
      repeat' (first | refine awp_seq_k fun K hK => ?_ | ((first | refine awp_region_k (by kernel_rfl) fun R hR => ?_ | refine awp_draw mixed (by kernel_rfl) (by kernel_rfl) fun R hR => ?_); simp only [go_sem, hw, he]) | ((first | (refine hR _ ?_; clear hR R) | refine awp_skip ?_ | refine awp_exit ?_ | refine awp_ret ?_); try simp only [thenA, inBlockA, reduceIte, reduceCtorEq, Nat.reduceEqDiff, if_false, if_true]) | ((first | refine hK _ ?_ | (clear hK K; first | refine hK _ ?_ | (clear hK K; first | refine hK _ ?_ | (clear hK K; first | refine hK _ ?_ | (clear hK K; refine hK _ ?_))))); clear hK K) | refine awp_true rfl rfl ?_ | refine awp_false rfl rfl ?_ | refine awp_block ?_ | ((first | refine CallK.pure (enter38) (sameClause_tri c want hc) ?_ ?_ | refine CallD.pure (enter38) (sameClause_tri c want hc) ?_ ?_); (focus first | ((repeat (first | exact trivial | refine ⟨(by first | exact Or.inl rfl | exact Or.inr rfl), ?_⟩)); done) | (simp only [coL, AV.dat, true_or, or_true, AV.d.injEq, go_sem]; done)); simp only [go_sem, hw, he]) | refine And.intro (by first | ((repeat' first | omega | exact trivial | rfl | assumption | (intro a e; subst e; rfl) | exact map_sz fun a => (by simp only [go_sem]) | refine And.intro ?_ ?_); done) | fail) ?_ | fail)
      (first | refine ret_pure ?_ ?_ ?_ | refine ret_ro ?_ ?_ ?_); focus exact (by simp only [Try.results37, resOkL, resOk, Try.ntmps37, List.toList_toArray]; first | decide | (simp only [go_sem]; done) | (simp only [go_sem]; and_intros <;> first | omega | rfl | decide))
      rotate_left; focus exact (by repeat (first | exact Fr.rfl' _ _ | assumption | refine Fr.updk ?_ (by omega) _))
      simp only [resA, resV, Try.results37, go_sem]
      all_goals try (first | exact Co.t2 (.dat rfl) (.dat rfl) | exact Co.t3 (.dat rfl) (.dat rfl) (.dat rfl))
      all_goals exact .dat rfl
    | false =>
      repeat' (first | refine awp_seq_k fun K hK => ?_ | ((first | refine awp_region_k (by kernel_rfl) fun R hR => ?_ | refine awp_draw mixed (by kernel_rfl) (by kernel_rfl) fun R hR => ?_); simp only [go_sem, hw, he]) | ((first | (refine hR _ ?_; clear hR R) | refine awp_skip ?_ | refine awp_exit ?_ | refine awp_ret ?_); try simp only [thenA, inBlockA, reduceIte, reduceCtorEq, Nat.reduceEqDiff, if_false, if_true]) | ((first | refine hK _ ?_ | (clear hK K; first | refine hK _ ?_ | (clear hK K; first | refine hK _ ?_ | (clear hK K; first | refine hK _ ?_ | (clear hK K; refine hK _ ?_))))); clear hK K) | refine awp_true rfl rfl ?_ | refine awp_false rfl rfl ?_ | refine awp_block ?_ | refine And.intro (by first | ((repeat' first | omega | exact trivial | rfl | assumption | (intro a e; subst e; rfl) | exact map_sz fun a => (by simp only [go_sem]) | refine And.intro ?_ ?_); done) | fail) ?_ | fail)
      (first | refine ret_pure ?_ ?_ ?_ | refine ret_ro ?_ ?_ ?_); focus exact (by simp only [Try.results37, resOkL, resOk, Try.ntmps37, List.toList_toArray]; first | decide | (simp only [go_sem]; done) | (simp only [go_sem]; and_intros <;> first | omega | rfl | decide))
      rotate_left; focus exact (by repeat (first | exact Fr.rfl' _ _ | assumption | refine Fr.updk ?_ (by omega) _))
      simp only [resA, resV, Try.results37, go_sem]
      all_goals try (first | exact Co.t2 (.dat rfl) (.dat rfl) | exact Co.t3 (.dat rfl) (.dat rfl) (.dat rfl))
      all_goals exact .dat rfl
end Go.Proofs.Ytmeekpinkfpnhaa
