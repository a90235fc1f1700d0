/- rewrite.step, ready, Check, Step, Normal. superposeref.PlacesOf. What superposeref.GreaterOf's table holds. superposeref.GreaterOf: what is plain. superposeref.GreaterOf: the end of a round. superposeref.GreaterOf: a round. -/
import Derived.Test.YtmeekpinkfpnhaaB05
import Derived.Test.YtmeekpinkfpnhaaB08
import Derived.Test.YtmeekpinkfpnhaaB09
import Derived.Test.YtmeekpinkfpnhaaB10
import Derived.Test.YtmeekpinkfpnhaaB11
set_option linter.unusedSimpArgs false
set_option linter.unusedSectionVars false
set_option linter.unusedVariables false
set_option linter.unnecessarySimpa false
set_option linter.all false
namespace Go.Proofs.Ytmeekpinkfpnhaa
open Go.RowKit
section
variable (rs : List Rl) (hrl : rs.length ≤ 4000000) (hrs : ∀ r ∈ rs, r.l.size ≤ 4000000 ∧ r.r.size ≤ 4000000)
include hrl hrs
theorem bs_small {t : Tm} (ht : t.size ≤ 4000000) {p : List Int} {r : Rl} {b : Bs} (h : foundG rs t [] = some (p, r, b)) : (∀ q ∈ b, q.2.size ≤ 4000000) ∧ r ∈ rs ∧ (∃ x, atG t p = some x) ∧ p.length ≤ 4000000 := by
  rw [found_nil] at h
  obtain ⟨x, hx, hr⟩ := findQ_some h
  obtain ⟨h1, h2, h3⟩ := ruleG_some hr
  have hat := plP_at t (p, x) hx
  refine ⟨fun q hq => ?_, h1, ⟨x, hat⟩, ?_⟩
  · rw [h3] at hq
    rcases meet_mem _ _ _ _ hq with hq | hq
    · cases hq
    · have hpt := at_parts p t x hat _ hq
      have : ∀ t : Tm, ∀ y ∈ parts t, y.size ≤ t.size := by
        refine Tm.ind fun t ih y hy => ?_
        rw [parts_eq, List.mem_append] at hy
        rcases hy with hy | hy
        · obtain ⟨u, hu, hy⟩ := partsL_mem hy
          have := ih u hu y hy
          have := size_us hu
          omega
        · rw [List.mem_singleton.1 hy]; exact Nat.le_refl _
      have := this t q.2 hpt
      omega
  · have key : ∀ (p : List Int) (t x : Tm), atG t p = some x → p.length < t.size := by
      intro p
      induction p with
      | nil => intro t x _; have := t.size_eq; simp; omega
      | cons i p ih =>
        intro t x h
        obtain ⟨n, hn, _, k⟩ := atG_some h
        have := ih _ _ k
        have := Tm.size_at hn
        rw [List.length_cons]; omega
    have := key p t x hat
    omega
set_option maxHeartbeats 1000000 in
set_option maxRecDepth 20000 in
theorem step_tri (t : Tm) (ht : t.size ≤ 4000000) : Tri Try.prog 97 [.d (rlsDV rs), .d (tmDV t)] (pure' (.tup [.d (tmDV (stepG rs t).1), bA (stepG rs t).2.1, iA (stepG rs t).2.2])) := by
  have hz3 : ([] : List Int).map iD = [] := rfl
  unfold stepG
  refine tri_enter Try.func97 rfl Try.ntmps97 (by simp only [List.length_cons, List.length_nil]; omega) fun w0 h0 k hrd hwr => ?_
  have hf := found_tri rs hrl (fun r hr => (hrs r hr).1) t [] (by simpa using ht) (k + 1, 2)
  rw [hz3] at hf
  refine awp_new fun hnew => ?_
  have hnn : NoNew h0 k := hnew
  have hnn := hnn.at
  cases hq : foundG rs t [] with
  | none =>
    rw [hq, fndE] at hf
    dsimp only
    repeat' (first | refine awp_seq_k fun K hK => ?_ | ((first | refine awp_region_k (by kernel_rfl) fun R hR => ?_ | refine awp_draw mixed (by kernel_rfl) (by kernel_rfl) fun R hR => ?_); simp only [go_sem, hnn]) | ((first | (refine hR _ ?_; clear hR R) | refine awp_skip ?_ | refine awp_exit ?_ | refine awp_ret ?_); try simp only [thenA, inBlockA, reduceIte, reduceCtorEq, Nat.reduceEqDiff, if_false, if_true]) | ((first | refine hK _ ?_ | (clear hK K; first | refine hK _ ?_ | (clear hK K; first | refine hK _ ?_ | (clear hK K; first | refine hK _ ?_ | (clear hK K; refine hK _ ?_))))); clear hK K) | refine awp_true rfl rfl ?_ | refine awp_false rfl rfl ?_ | refine awp_block ?_ | ((first | refine CallK.pure (enter126) (hf) ?_ ?_ | refine CallD.pure (enter126) (hf) ?_ ?_); (focus first | ((repeat (first | exact trivial | refine ⟨(by first | exact Or.inl rfl | exact Or.inr rfl), ?_⟩)); done) | (simp only [coL, AV.dat, true_or, or_true, AV.d.injEq, go_sem]; done)); simp only [go_sem, hnn]) | refine And.intro (by first | ((repeat' first | omega | exact trivial | rfl | assumption | (intro a e; subst e; rfl) | exact map_sz fun a => (by simp only [go_sem]) | refine And.intro ?_ ?_); done) | fail) ?_ | fail)
    (first | refine ret_pure ?_ ?_ ?_ | refine ret_ro ?_ ?_ ?_); focus exact (by simp only [Try.results97, resOkL, resOk, Try.ntmps97, List.toList_toArray]; first | decide | (simp only [go_sem]; done) | (simp only [go_sem]; and_intros <;> first | omega | rfl | decide))
    rotate_left; focus exact (by repeat (first | exact Fr.rfl' _ _ | assumption | refine Fr.updk ?_ (by omega) _))
    simp only [resA, resV, Try.results97, go_sem]
    all_goals try (first | exact Co.t2 (.dat rfl) (.dat rfl) | exact Co.t3 (.dat rfl) (.dat rfl) (.dat rfl))
    all_goals exact .t3 (co_tm' rfl) (.dat rfl) (.dat rfl)
  | some q =>
    obtain ⟨p, r, b⟩ := q
    obtain ⟨b1, b2, ⟨x, b3⟩, b4⟩ := bs_small rs hrl hrs ht hq
    rw [hq, fndE] at hf
    dsimp only
    have hrw := raw_tri (k + 1, 2) b b1 r.r (hrs r b2).2
    have hro' : ∀ (k' : Nat) (h : Heap), k + 1 < k' → h (k + 1, 2) = some (.map (bsE b)) → RoOK k' [((k + 1, 2), .map (bsE b))] h := fun k' h h1 e => ⟨fun x hx => by simp only [List.mem_cons, List.not_mem_nil, or_false] at hx; subst hx; exact ⟨h1, e⟩⟩
    unfold rawAns at hrw
    by_cases h1 : apS b (pre r.r) > 120
    · rw [if_pos h1] at hrw ⊢
      repeat' (first | refine awp_seq_k fun K hK => ?_ | ((first | refine awp_region_k (by kernel_rfl) fun R hR => ?_ | refine awp_draw mixed (by kernel_rfl) (by kernel_rfl) fun R hR => ?_); simp only [go_sem, hnn]) | ((first | (refine hR _ ?_; clear hR R) | refine awp_skip ?_ | refine awp_exit ?_ | refine awp_ret ?_); try simp only [thenA, inBlockA, reduceIte, reduceCtorEq, Nat.reduceEqDiff, if_false, if_true]) | ((first | refine hK _ ?_ | (clear hK K; first | refine hK _ ?_ | (clear hK K; first | refine hK _ ?_ | (clear hK K; first | refine hK _ ?_ | (clear hK K; refine hK _ ?_))))); clear hK K) | refine awp_true rfl rfl ?_ | refine awp_false rfl rfl ?_ | refine awp_block ?_ | ((first | refine CallK.look (enter127) (hrw) ?_ (hro' (k + 1 + 1 + 1) _ (by omega) (by simp only [go_sem, ])) (Fr.rfl' _ _) ?_ | refine CallD.look (enter127) (hrw) ?_ (hro' (k + 1 + 1 + 1) _ (by omega) (by simp only [go_sem, ])) (Fr.rfl' _ _) (by first | assumption | exact List.cons_ne_nil _ _) ?_); (focus first | ((repeat (first | exact trivial | refine ⟨(by first | exact Or.inl rfl | exact Or.inr rfl), ?_⟩)); done) | (simp only [coL, AV.dat, true_or, or_true, AV.d.injEq, go_sem]; done)); simp only [go_sem, hnn]) | ((first | refine CallK.eff (enter126) (hf) ?_ ?_ ?_ ?_ | refine CallD.eff (enter126) (hf) ?_ ?_ ?_ ?_); (focus first | ((repeat (first | exact trivial | refine ⟨(by first | exact Or.inl rfl | exact Or.inr rfl), ?_⟩)); done) | (simp only [coL, AV.dat, true_or, or_true, AV.d.injEq, go_sem]; done)); (focus (simp only [go_sem, hnn]; done)); (focus (simp only [go_sem, hnn]; done)); simp only [go_sem, hnn]) | refine And.intro (by first | ((repeat' first | omega | exact trivial | rfl | assumption | (intro a e; subst e; rfl) | exact map_sz fun a => (by simp only [go_sem]) | refine And.intro ?_ ?_); done) | fail) ?_ | fail)
      (first | refine ret_pure ?_ ?_ ?_ | refine ret_ro ?_ ?_ ?_); focus exact (by simp only [Try.results97, resOkL, resOk, Try.ntmps97, List.toList_toArray]; first | decide | (simp only [go_sem]; done) | (simp only [go_sem]; and_intros <;> first | omega | rfl | decide))
      rotate_left; focus exact (by repeat (first | exact Fr.rfl' _ _ | assumption | refine Fr.updk ?_ (by omega) _))
      simp only [resA, resV, Try.results97, go_sem]
      all_goals try (first | exact Co.t2 (.dat rfl) (.dat rfl) | exact Co.t3 (.dat rfl) (.dat rfl) (.dat rfl))
      all_goals exact .t3 (co_tm rfl) (.dat rfl) (.dat rfl)
    · rw [if_neg h1] at hrw ⊢
      generalize mapM (madeS b) r.r = m at hrw ⊢
      have hly := lay_tri p t m x b3 b4 ht
      generalize layG t p m = y at hly ⊢
      have hc := count_tri y 120 (by omega) (by omega)
      cases h2 : decide (count y 120 > 120) with
      | true =>
        rw [if_pos (by simpa using h2)]
        repeat' (first | refine awp_seq_k fun K hK => ?_ | ((first | refine awp_region_k (by kernel_rfl) fun R hR => ?_ | refine awp_draw mixed (by kernel_rfl) (by kernel_rfl) fun R hR => ?_); simp only [go_sem, hnn, h2, bne_self_eq_false]) | ((first | (refine hR _ ?_; clear hR R) | refine awp_skip ?_ | refine awp_exit ?_ | refine awp_ret ?_); try simp only [thenA, inBlockA, reduceIte, reduceCtorEq, Nat.reduceEqDiff, if_false, if_true]) | ((first | refine hK _ ?_ | (clear hK K; first | refine hK _ ?_ | (clear hK K; first | refine hK _ ?_ | (clear hK K; first | refine hK _ ?_ | (clear hK K; refine hK _ ?_))))); clear hK K) | refine awp_true rfl rfl ?_ | refine awp_false rfl rfl ?_ | refine awp_block ?_ | ((first | refine CallK.look (enter127) (hrw) ?_ (hro' (k + 1 + 1 + 1) _ (by omega) (by simp only [go_sem, ])) (Fr.rfl' _ _) ?_ | refine CallD.look (enter127) (hrw) ?_ (hro' (k + 1 + 1 + 1) _ (by omega) (by simp only [go_sem, ])) (Fr.rfl' _ _) (by first | assumption | exact List.cons_ne_nil _ _) ?_ | refine CallK.pure (enter106) (hly) ?_ ?_ | refine CallD.pure (enter106) (hly) ?_ ?_ | refine CallK.pure (enter102) (hc) ?_ ?_ | refine CallD.pure (enter102) (hc) ?_ ?_); (focus first | ((repeat (first | exact trivial | refine ⟨(by first | exact Or.inl rfl | exact Or.inr rfl), ?_⟩)); done) | (simp only [coL, AV.dat, true_or, or_true, AV.d.injEq, go_sem]; done)); simp only [go_sem, hnn, h2, bne_self_eq_false]) | ((first | refine CallK.eff (enter126) (hf) ?_ ?_ ?_ ?_ | refine CallD.eff (enter126) (hf) ?_ ?_ ?_ ?_); (focus first | ((repeat (first | exact trivial | refine ⟨(by first | exact Or.inl rfl | exact Or.inr rfl), ?_⟩)); done) | (simp only [coL, AV.dat, true_or, or_true, AV.d.injEq, go_sem]; done)); (focus (simp only [go_sem, hnn, h2, bne_self_eq_false]; done)); (focus (simp only [go_sem, hnn, h2, bne_self_eq_false]; done)); simp only [go_sem, hnn, h2, bne_self_eq_false]) | refine And.intro (by first | ((repeat' first | omega | exact trivial | rfl | assumption | (intro a e; subst e; rfl) | exact map_sz fun a => (by simp only [go_sem]) | refine And.intro ?_ ?_); done) | fail) ?_ | fail)
        (first | refine ret_pure ?_ ?_ ?_ | refine ret_ro ?_ ?_ ?_); focus exact (by simp only [Try.results97, resOkL, resOk, Try.ntmps97, List.toList_toArray]; first | decide | (simp only [go_sem]; done) | (simp only [go_sem]; and_intros <;> first | omega | rfl | decide))
        rotate_left; focus exact (by repeat (first | exact Fr.rfl' _ _ | assumption | refine Fr.updk ?_ (by omega) _))
        simp only [resA, resV, Try.results97, go_sem]
        all_goals try (first | exact Co.t2 (.dat rfl) (.dat rfl) | exact Co.t3 (.dat rfl) (.dat rfl) (.dat rfl))
        all_goals exact .t3 (co_tm rfl) (.dat rfl) (.dat rfl)
      | false =>
        rw [if_neg (by simpa using h2)]
        repeat' (first | refine awp_seq_k fun K hK => ?_ | ((first | refine awp_region_k (by kernel_rfl) fun R hR => ?_ | refine awp_draw mixed (by kernel_rfl) (by kernel_rfl) fun R hR => ?_); simp only [go_sem, hnn, h2, bne_self_eq_false]) | ((first | (refine hR _ ?_; clear hR R) | refine awp_skip ?_ | refine awp_exit ?_ | refine awp_ret ?_); try simp only [thenA, inBlockA, reduceIte, reduceCtorEq, Nat.reduceEqDiff, if_false, if_true]) | ((first | refine hK _ ?_ | (clear hK K; first | refine hK _ ?_ | (clear hK K; first | refine hK _ ?_ | (clear hK K; first | refine hK _ ?_ | (clear hK K; refine hK _ ?_))))); clear hK K) | refine awp_true rfl rfl ?_ | refine awp_false rfl rfl ?_ | refine awp_block ?_ | ((first | refine CallK.look (enter127) (hrw) ?_ (hro' (k + 1 + 1 + 1) _ (by omega) (by simp only [go_sem, ])) (Fr.rfl' _ _) ?_ | refine CallD.look (enter127) (hrw) ?_ (hro' (k + 1 + 1 + 1) _ (by omega) (by simp only [go_sem, ])) (Fr.rfl' _ _) (by first | assumption | exact List.cons_ne_nil _ _) ?_ | refine CallK.pure (enter106) (hly) ?_ ?_ | refine CallD.pure (enter106) (hly) ?_ ?_ | refine CallK.pure (enter102) (hc) ?_ ?_ | refine CallD.pure (enter102) (hc) ?_ ?_); (focus first | ((repeat (first | exact trivial | refine ⟨(by first | exact Or.inl rfl | exact Or.inr rfl), ?_⟩)); done) | (simp only [coL, AV.dat, true_or, or_true, AV.d.injEq, go_sem]; done)); simp only [go_sem, hnn, h2, bne_self_eq_false]) | ((first | refine CallK.eff (enter126) (hf) ?_ ?_ ?_ ?_ | refine CallD.eff (enter126) (hf) ?_ ?_ ?_ ?_); (focus first | ((repeat (first | exact trivial | refine ⟨(by first | exact Or.inl rfl | exact Or.inr rfl), ?_⟩)); done) | (simp only [coL, AV.dat, true_or, or_true, AV.d.injEq, go_sem]; done)); (focus (simp only [go_sem, hnn, h2, bne_self_eq_false]; done)); (focus (simp only [go_sem, hnn, h2, bne_self_eq_false]; done)); simp only [go_sem, hnn, h2, bne_self_eq_false]) | refine And.intro (by first | ((repeat' first | omega | exact trivial | rfl | assumption | (intro a e; subst e; rfl) | exact map_sz fun a => (by simp only [go_sem]) | refine And.intro ?_ ?_); done) | fail) ?_ | fail)
        (first | refine ret_pure ?_ ?_ ?_ | refine ret_ro ?_ ?_ ?_); focus exact (by simp only [Try.results97, resOkL, resOk, Try.ntmps97, List.toList_toArray]; first | decide | (simp only [go_sem]; done) | (simp only [go_sem]; and_intros <;> first | omega | rfl | decide))
        rotate_left; focus exact (by repeat (first | exact Fr.rfl' _ _ | assumption | refine Fr.updk ?_ (by omega) _))
        simp only [resA, resV, Try.results97, go_sem]
        all_goals try (first | exact Co.t2 (.dat rfl) (.dat rfl) | exact Co.t3 (.dat rfl) (.dat rfl) (.dat rfl))
        all_goals exact .t3 (co_tm' rfl) (.dat rfl) (.dat rfl)
end
theorem rlL_at {g : List Int} {l : List Rl} {i : Nat} (hi : i < l.length) : rlL g (l.drop i) = if own g l[i].l ≠ 0 then own g l[i].l else if own g l[i].r ≠ 0 then own g l[i].r else if gt l[i].l l[i].r = false then 4 else rlL g (l.drop (i + 1)) := by
  rw [List.drop_eq_getElem_cons hi, rlL]
set_option maxHeartbeats 4000000 in
set_option maxRecDepth 20000 in
theorem rwCheck_tri (g : List Int) (rs : List Rl) (hrl : rs.length ≤ 4000000) : Tri Try.prog 45 [.d (sgDV g), .d (rlsDV rs)] (pure' (iA (rlOk g rs))) := by
  refine tri_enter Try.func45 rfl Try.ntmps45 (by simp only [List.length_cons, List.length_nil]; omega) fun w0 h0 k hrd hwr => ?_
  unfold rlOk
  cases hs : sigOk g == 0 with
  | false =>
    have hs' : (sigOk g != 0) = true := by simpa using hs
    rw [if_pos (by simpa using hs)]
    repeat' (first | refine awp_seq_k fun K hK => ?_ | ((first | refine awp_region_k (by kernel_rfl) fun R hR => ?_ | refine awp_draw mixed (by kernel_rfl) (by kernel_rfl) fun R hR => ?_); simp only [go_sem, hs']) | ((first | (refine hR _ ?_; clear hR R) | refine awp_skip ?_ | refine awp_exit ?_ | refine awp_ret ?_); try simp only [thenA, inBlockA, reduceIte, reduceCtorEq, Nat.reduceEqDiff, if_false, if_true]) | ((first | refine hK _ ?_ | (clear hK K; first | refine hK _ ?_ | (clear hK K; first | refine hK _ ?_ | (clear hK K; first | refine hK _ ?_ | (clear hK K; refine hK _ ?_))))); clear hK K) | refine awp_true rfl rfl ?_ | refine awp_false rfl rfl ?_ | refine awp_block ?_ | ((first | refine CallK.pure (enter53) (signature_tri g) ?_ ?_ | refine CallD.pure (enter53) (signature_tri g) ?_ ?_); (focus first | ((repeat (first | exact trivial | refine ⟨(by first | exact Or.inl rfl | exact Or.inr rfl), ?_⟩)); done) | (simp only [coL, AV.dat, true_or, or_true, AV.d.injEq, go_sem]; done)); simp only [go_sem, hs']) | refine And.intro (by first | ((repeat' first | omega | exact trivial | rfl | assumption | (intro a e; subst e; rfl) | exact map_sz fun a => (by simp only [go_sem]) | refine And.intro ?_ ?_); done) | fail) ?_ | fail)
    (first | refine ret_pure ?_ ?_ ?_ | refine ret_ro ?_ ?_ ?_); focus exact (by simp only [Try.results45, resOkL, resOk, Try.ntmps45, List.toList_toArray]; first | decide | (simp only [go_sem]; done) | (simp only [go_sem]; and_intros <;> first | omega | rfl | decide))
    rotate_left; focus exact (by repeat (first | exact Fr.rfl' _ _ | assumption | refine Fr.updk ?_ (by omega) _))
    simp only [resA, resV, Try.results45, go_sem]
    all_goals try (first | exact Co.t2 (.dat rfl) (.dat rfl) | exact Co.t3 (.dat rfl) (.dat rfl) (.dat rfl))
    exact .dat rfl
  | true =>
    have hs2 : sigOk g = 0 := by simpa using hs
    rw [if_neg (by simp [hs2])]
    cases h8 : decide ((rs.length : Int) > 20) with
    | true =>
      rw [if_pos (by simp at h8; omega)]
      repeat' (first | refine awp_seq_k fun K hK => ?_ | ((first | refine awp_region_k (by kernel_rfl) fun R hR => ?_ | refine awp_draw mixed (by kernel_rfl) (by kernel_rfl) fun R hR => ?_); simp only [go_sem, hs2, h8, bne_self_eq_false]) | ((first | (refine hR _ ?_; clear hR R) | refine awp_skip ?_ | refine awp_exit ?_ | refine awp_ret ?_); try simp only [thenA, inBlockA, reduceIte, reduceCtorEq, Nat.reduceEqDiff, if_false, if_true]) | ((first | refine hK _ ?_ | (clear hK K; first | refine hK _ ?_ | (clear hK K; first | refine hK _ ?_ | (clear hK K; first | refine hK _ ?_ | (clear hK K; refine hK _ ?_))))); clear hK K) | refine awp_true rfl rfl ?_ | refine awp_false rfl rfl ?_ | refine awp_block ?_ | ((first | refine CallK.pure (enter53) (signature_tri g) ?_ ?_ | refine CallD.pure (enter53) (signature_tri g) ?_ ?_); (focus first | ((repeat (first | exact trivial | refine ⟨(by first | exact Or.inl rfl | exact Or.inr rfl), ?_⟩)); done) | (simp only [coL, AV.dat, true_or, or_true, AV.d.injEq, go_sem]; done)); simp only [go_sem, hs2, h8, bne_self_eq_false]) | refine And.intro (by first | ((repeat' first | omega | exact trivial | rfl | assumption | (intro a e; subst e; rfl) | exact map_sz fun a => (by simp only [go_sem]) | refine And.intro ?_ ?_); done) | fail) ?_ | fail)
      (first | refine ret_pure ?_ ?_ ?_ | refine ret_ro ?_ ?_ ?_); focus exact (by simp only [Try.results45, resOkL, resOk, Try.ntmps45, List.toList_toArray]; first | decide | (simp only [go_sem]; done) | (simp only [go_sem]; and_intros <;> first | omega | rfl | decide))
      rotate_left; focus exact (by repeat (first | exact Fr.rfl' _ _ | assumption | refine Fr.updk ?_ (by omega) _))
      simp only [resA, resV, Try.results45, go_sem]
      all_goals try (first | exact Co.t2 (.dat rfl) (.dat rfl) | exact Co.t3 (.dat rfl) (.dat rfl) (.dat rfl))
      exact .dat rfl
    | false =>
      rw [if_neg (by simp at h8; omega)]
      repeat' (first | refine awp_seq_k fun K hK => ?_ | ((first | refine awp_region_k (by kernel_rfl) fun R hR => ?_ | refine awp_draw mixed (by kernel_rfl) (by kernel_rfl) fun R hR => ?_); simp only [go_sem, hs2, h8, bne_self_eq_false]) | ((first | (refine hR _ ?_; clear hR R) | refine awp_skip ?_ | refine awp_exit ?_ | refine awp_ret ?_); try simp only [thenA, inBlockA, reduceIte, reduceCtorEq, Nat.reduceEqDiff, if_false, if_true]) | ((first | refine hK _ ?_ | (clear hK K; first | refine hK _ ?_ | (clear hK K; first | refine hK _ ?_ | (clear hK K; first | refine hK _ ?_ | (clear hK K; refine hK _ ?_))))); clear hK K) | refine awp_true rfl rfl ?_ | refine awp_false rfl rfl ?_ | refine awp_block ?_ | ((first | refine CallK.pure (enter53) (signature_tri g) ?_ ?_ | refine CallD.pure (enter53) (signature_tri g) ?_ ?_); (focus first | ((repeat (first | exact trivial | refine ⟨(by first | exact Or.inl rfl | exact Or.inr rfl), ?_⟩)); done) | (simp only [coL, AV.dat, true_or, or_true, AV.d.injEq, go_sem]; done)); simp only [go_sem, hs2, h8, bne_self_eq_false]) | refine And.intro (by first | ((repeat' first | omega | exact trivial | rfl | assumption | (intro a e; subst e; rfl) | exact map_sz fun a => (by simp only [go_sem]) | refine And.intro ?_ ?_); done) | fail) ?_ | fail)
      refine awp_loop (fun σ => ∃ i : Nat, σ.t 2 = .ptr (k, 0) 0 ∧ σ.t 19 = .d (rlsDV rs) ∧ σ.t 20 = iA rs.length ∧ σ.t 21 = iA i ∧ σ.h (k, 0) = some (.cells 24 [.d (.sl (g.map iD))]) ∧ Fr k h0 σ.h ∧ k < σ.k ∧ i ≤ rs.length ∧ rlL g (rs.drop i) = rlL g rs) (fun σ => rs.length - (intOf' (σ.t 21)).toNat) ?_ ?_
      · refine ⟨0, ?_⟩
        simp only [go_sem, List.drop_zero]
        and_intros; all_goals try (first | rfl | omega | assumption | ((repeat (first | exact Fr.rfl' _ _ | assumption | refine Fr.updk ?_ (by omega) _)); done))
      · rintro σ ⟨i, s2, s19, s20, s21, sh, hF, hk, hi, hv⟩
        have hne := ltne hk
        rcases Nat.lt_or_ge i rs.length with hlt | hge
        · have hz : (i : Int) < (rs.length : Int) := by omega
          have e1 : (rs.map rlDV).getD i default = rlDV rs[i] := nth_map rlDV hlt _
          rw [rlL_at hlt] at hv
          generalize rs[i] = r at *
          repeat' (first | refine awp_seq_k fun K hK => ?_ | ((first | refine awp_region_k (by kernel_rfl) fun R hR => ?_ | refine awp_draw mixed (by kernel_rfl) (by kernel_rfl) fun R hR => ?_); simp only [go_sem, s2, s19, s20, s21, sh, hz, e1, hne, Int.toNat_natCast]) | ((first | (refine hR _ ?_; clear hR R) | refine awp_skip ?_ | refine awp_exit ?_ | refine awp_ret ?_); try simp only [thenA, inBlockA, reduceIte, reduceCtorEq, Nat.reduceEqDiff, if_false, if_true]) | ((first | refine hK _ ?_ | (clear hK K; first | refine hK _ ?_ | (clear hK K; first | refine hK _ ?_ | (clear hK K; first | refine hK _ ?_ | (clear hK K; refine hK _ ?_))))); clear hK K) | refine awp_true rfl rfl ?_ | refine awp_false rfl rfl ?_ | refine awp_block ?_ | refine And.intro (by first | ((repeat' first | omega | exact trivial | rfl | assumption | (intro a e; subst e; rfl) | exact map_sz fun a => (by simp only [go_sem]) | refine And.intro ?_ ?_); done) | fail) ?_ | fail)
          refine awp_loop (fun τ => ∃ j : Nat, τ.t 2 = .ptr (k, 0) 0 ∧ τ.t 19 = .d (rlsDV rs) ∧ τ.t 20 = iA rs.length ∧ τ.t 21 = iA i ∧ τ.t 7 = .ptr (σ.k + 1, 2) 0 ∧ τ.t 29 = .own (σ.k + 1 + 1, 4) ([r.l, r.r].map tmDV) ∧ τ.t 30 = iA 2 ∧ τ.t 31 = iA j ∧
            τ.h (k, 0) = some (.cells 24 [.d (.sl (g.map iD))]) ∧ τ.h (σ.k + 1, 2) = some (.cells 125 [iA r.l.v, iA r.l.f, .d (.sl (r.l.us.map tmDV)), iA r.r.v, iA r.r.f, .d (.sl (r.r.us.map tmDV))]) ∧ Fr k h0 τ.h ∧ σ.k + 1 + 1 < τ.k ∧ j ≤ 2 ∧ ownL g ([r.l, r.r].drop j) = ownL g [r.l, r.r]) (fun τ => 2 - (intOf' (τ.t 31)).toNat) ?_ ?_
          · refine ⟨0, ?_⟩
            simp only [go_sem, List.drop_zero, s2, s19, s20, s21, sh, hne]
            and_intros; all_goals try (first | rfl | omega | assumption | ((repeat (first | exact Fr.rfl' _ _ | assumption | refine Fr.updk ?_ (by omega) _)); done))
          · rintro τ ⟨j, u2, u19, u20, u21, u7, u29, u30, u31, uh, uh7, uF, uk, uj, uv⟩
            have hne' := ltne (show k < τ.k by omega)
            have hne7 := ltne (show σ.k + 1 < τ.k by omega)
            rcases Nat.lt_or_ge j 2 with hlt' | hge'
            · have hz' : (j : Int) < 2 := by omega
              have hj : j < [r.l, r.r].length := hlt'
              have e2 : ([r.l, r.r].map tmDV).getD j default = tmDV [r.l, r.r][j] := nth_map tmDV hj _
              have e3 : ([r.l, r.r].map tmDV).length = 2 := rfl
              rw [List.drop_eq_getElem_cons hj, ownL] at uv
              have hvR : own g [r.l, r.r][j] ≠ 0 → own g [r.l, r.r][j] = rlL g rs := fun hne0 => by
                rw [if_pos hne0] at uv
                rw [uv, ← hv, ownL, ownL, ownL]
                by_cases h1 : own g r.l = 0
                · by_cases h2 : own g r.r = 0
                  · rw [ownL, ownL, ownL] at uv
                    simp [h1, h2] at uv
                    exact absurd uv hne0
                  · simp [h1, h2]
                · simp [h1]
              generalize hel : [r.l, r.r].map tmDV = el at *
              cases ha : own g [r.l, r.r][j] == 0 with
              | true =>
                have ha' : own g [r.l, r.r][j] = 0 := by simpa using ha
                rw [if_neg (by simp [ha'])] at uv
                repeat' (first | refine awp_seq_k fun K hK => ?_ | ((first | refine awp_region_k (by kernel_rfl) fun R hR => ?_ | refine awp_draw mixed (by kernel_rfl) (by kernel_rfl) fun R hR => ?_); simp only [go_sem, u2, u29, u30, u31, uh, hz', e2, e3, hne', ha', bne_self_eq_false, Int.toNat_natCast]) | ((first | (refine hR _ ?_; clear hR R) | refine awp_skip ?_ | refine awp_exit ?_ | refine awp_ret ?_); try simp only [thenA, inBlockA, reduceIte, reduceCtorEq, Nat.reduceEqDiff, if_false, if_true]) | ((first | refine hK _ ?_ | (clear hK K; first | refine hK _ ?_ | (clear hK K; first | refine hK _ ?_ | (clear hK K; first | refine hK _ ?_ | (clear hK K; refine hK _ ?_))))); clear hK K) | refine awp_true rfl rfl ?_ | refine awp_false rfl rfl ?_ | refine awp_block ?_ | ((first | refine CallK.pure (enter68) (own_tri g [r.l, r.r][j]) ?_ ?_ | refine CallD.pure (enter68) (own_tri g [r.l, r.r][j]) ?_ ?_); (focus first | ((repeat (first | exact trivial | refine ⟨(by first | exact Or.inl rfl | exact Or.inr rfl), ?_⟩)); done) | (simp only [coL, AV.dat, true_or, or_true, AV.d.injEq, go_sem]; done)); simp only [go_sem, u2, u29, u30, u31, uh, hz', e2, e3, hne', ha', bne_self_eq_false, Int.toNat_natCast]) | refine And.intro (by first | ((repeat' first | omega | exact trivial | rfl | assumption | (intro a e; subst e; rfl) | exact map_sz fun a => (by simp only [go_sem]) | refine And.intro ?_ ?_); done) | fail) ?_ | fail)
                refine ⟨⟨j + 1, ?_⟩, ?_⟩
                rotate_left
                · simp only [go_sem, u2, u19, u20, u21, u7, u29, u30, u31, uh, uh7, hne', hne7]; omega
                simp only [go_sem, u2, u19, u20, u21, u7, u29, u30, u31, uh, uh7, hne', hne7]
                and_intros; all_goals try (first | rfl | omega | assumption | ((repeat (first | exact Fr.rfl' _ _ | assumption | refine Fr.updk ?_ (by omega) _)); done))
              | false =>
                have ha' : (own g [r.l, r.r][j] != 0) = true := by simpa using ha
                have ha2 : own g [r.l, r.r][j] ≠ 0 := by simpa using ha
                repeat' (first | refine awp_seq_k fun K hK => ?_ | ((first | refine awp_region_k (by kernel_rfl) fun R hR => ?_ | refine awp_draw mixed (by kernel_rfl) (by kernel_rfl) fun R hR => ?_); simp only [go_sem, u2, u29, u30, u31, uh, hz', e2, e3, hne', ha', Int.toNat_natCast]) | ((first | (refine hR _ ?_; clear hR R) | refine awp_skip ?_ | refine awp_exit ?_ | refine awp_ret ?_); try simp only [thenA, inBlockA, reduceIte, reduceCtorEq, Nat.reduceEqDiff, if_false, if_true]) | ((first | refine hK _ ?_ | (clear hK K; first | refine hK _ ?_ | (clear hK K; first | refine hK _ ?_ | (clear hK K; first | refine hK _ ?_ | (clear hK K; refine hK _ ?_))))); clear hK K) | refine awp_true rfl rfl ?_ | refine awp_false rfl rfl ?_ | refine awp_block ?_ | ((first | refine CallK.pure (enter68) (own_tri g [r.l, r.r][j]) ?_ ?_ | refine CallD.pure (enter68) (own_tri g [r.l, r.r][j]) ?_ ?_); (focus first | ((repeat (first | exact trivial | refine ⟨(by first | exact Or.inl rfl | exact Or.inr rfl), ?_⟩)); done) | (simp only [coL, AV.dat, true_or, or_true, AV.d.injEq, go_sem]; done)); simp only [go_sem, u2, u29, u30, u31, uh, hz', e2, e3, hne', ha', Int.toNat_natCast]) | refine And.intro (by first | ((repeat' first | omega | exact trivial | rfl | assumption | (intro a e; subst e; rfl) | exact map_sz fun a => (by simp only [go_sem]) | refine And.intro ?_ ?_); done) | fail) ?_ | fail)
                (first | refine ret_pure ?_ ?_ ?_ | refine ret_ro ?_ ?_ ?_); focus exact (by simp only [Try.results45, resOkL, resOk, Try.ntmps45, List.toList_toArray]; first | decide | (simp only [go_sem]; done) | (simp only [go_sem]; and_intros <;> first | omega | rfl | decide))
                rotate_left; focus exact (by repeat (first | exact Fr.rfl' _ _ | assumption | refine Fr.updk ?_ (by omega) _))
                simp only [resA, resV, Try.results45, go_sem]
                all_goals try (first | exact Co.t2 (.dat rfl) (.dat rfl) | exact Co.t3 (.dat rfl) (.dat rfl) (.dat rfl))
                exact co_i (hvR ha2)
            · have hz' : ¬ ((j : Int) < 2) := by omega
              obtain rfl : j = 2 := by omega
              have hboth : own g r.l = 0 ∧ own g r.r = 0 := by
                simp only [ownL, List.drop] at uv
                by_cases h1 : own g r.l = 0
                · by_cases h2 : own g r.r = 0
                  · exact ⟨h1, h2⟩
                  · simp [h1, h2] at uv; exact absurd uv.symm h2
                · simp [h1] at uv; exact absurd uv.symm h1
              rw [if_neg (by simp [hboth.1]), if_neg (by simp [hboth.2])] at hv
              have := own_parts hboth.1
              have := own_parts hboth.2
              have hab := above_tri r.l r.r (own_arit hboth.1 hboth.2) (by omega) (by omega)
              cases hgt : gt r.l r.r with
              | true =>
                rw [hgt] at hab
                rw [hgt, if_neg (by simp)] at hv
                repeat' (first | refine awp_seq_k fun K hK => ?_ | ((first | refine awp_region_k (by kernel_rfl) fun R hR => ?_ | refine awp_draw mixed (by kernel_rfl) (by kernel_rfl) fun R hR => ?_); simp only [go_sem, u19, u20, u21, u7, u30, u31, uh, uh7, hz', hne', hne7]) | ((first | (refine hR _ ?_; clear hR R) | refine awp_skip ?_ | refine awp_exit ?_ | refine awp_ret ?_); try simp only [thenA, inBlockA, reduceIte, reduceCtorEq, Nat.reduceEqDiff, if_false, if_true]) | ((first | refine hK _ ?_ | (clear hK K; first | refine hK _ ?_ | (clear hK K; first | refine hK _ ?_ | (clear hK K; first | refine hK _ ?_ | (clear hK K; refine hK _ ?_))))); clear hK K) | refine awp_true rfl rfl ?_ | refine awp_false rfl rfl ?_ | refine awp_block ?_ | ((first | refine CallK.pure (enter62) (hab) ?_ ?_ | refine CallD.pure (enter62) (hab) ?_ ?_); (focus first | ((repeat (first | exact trivial | refine ⟨(by first | exact Or.inl rfl | exact Or.inr rfl), ?_⟩)); done) | (simp only [coL, AV.dat, true_or, or_true, AV.d.injEq, go_sem]; done)); simp only [go_sem, u19, u20, u21, u7, u30, u31, uh, uh7, hz', hne', hne7]) | refine And.intro (by first | ((repeat' first | omega | exact trivial | rfl | assumption | (intro a e; subst e; rfl) | exact map_sz fun a => (by simp only [go_sem]) | refine And.intro ?_ ?_); done) | fail) ?_ | fail)
                refine ⟨⟨i + 1, ?_⟩, ?_⟩
                rotate_left
                · simp only [go_sem, u2, u19, u20, u21, uh, s21, hne', hne7]; omega
                simp only [go_sem, u2, u19, u20, u21, uh, s21, hne', hne7]
                and_intros; all_goals try (first | rfl | omega | assumption | ((repeat (first | exact Fr.rfl' _ _ | assumption | refine Fr.updk ?_ (by omega) _)); done))
              | false =>
                rw [hgt] at hab
                rw [hgt, if_pos rfl] at hv
                repeat' (first | refine awp_seq_k fun K hK => ?_ | ((first | refine awp_region_k (by kernel_rfl) fun R hR => ?_ | refine awp_draw mixed (by kernel_rfl) (by kernel_rfl) fun R hR => ?_); simp only [go_sem, u19, u20, u21, u7, u30, u31, uh, uh7, hz', hne', hne7]) | ((first | (refine hR _ ?_; clear hR R) | refine awp_skip ?_ | refine awp_exit ?_ | refine awp_ret ?_); try simp only [thenA, inBlockA, reduceIte, reduceCtorEq, Nat.reduceEqDiff, if_false, if_true]) | ((first | refine hK _ ?_ | (clear hK K; first | refine hK _ ?_ | (clear hK K; first | refine hK _ ?_ | (clear hK K; first | refine hK _ ?_ | (clear hK K; refine hK _ ?_))))); clear hK K) | refine awp_true rfl rfl ?_ | refine awp_false rfl rfl ?_ | refine awp_block ?_ | ((first | refine CallK.pure (enter62) (hab) ?_ ?_ | refine CallD.pure (enter62) (hab) ?_ ?_); (focus first | ((repeat (first | exact trivial | refine ⟨(by first | exact Or.inl rfl | exact Or.inr rfl), ?_⟩)); done) | (simp only [coL, AV.dat, true_or, or_true, AV.d.injEq, go_sem]; done)); simp only [go_sem, u19, u20, u21, u7, u30, u31, uh, uh7, hz', hne', hne7]) | refine And.intro (by first | ((repeat' first | omega | exact trivial | rfl | assumption | (intro a e; subst e; rfl) | exact map_sz fun a => (by simp only [go_sem]) | refine And.intro ?_ ?_); done) | fail) ?_ | fail)
                (first | refine ret_pure ?_ ?_ ?_ | refine ret_ro ?_ ?_ ?_); focus exact (by simp only [Try.results45, resOkL, resOk, Try.ntmps45, List.toList_toArray]; first | decide | (simp only [go_sem]; done) | (simp only [go_sem]; and_intros <;> first | omega | rfl | decide))
                rotate_left; focus exact (by repeat (first | exact Fr.rfl' _ _ | assumption | refine Fr.updk ?_ (by omega) _))
                simp only [resA, resV, Try.results45, go_sem]
                all_goals try (first | exact Co.t2 (.dat rfl) (.dat rfl) | exact Co.t3 (.dat rfl) (.dat rfl) (.dat rfl))
                exact co_i hv
        · have hz : ¬ ((i : Int) < (rs.length : Int)) := by omega
          rw [List.drop_eq_nil_of_le hge, rlL] at hv
          repeat' (first | refine awp_seq_k fun K hK => ?_ | ((first | refine awp_region_k (by kernel_rfl) fun R hR => ?_ | refine awp_draw mixed (by kernel_rfl) (by kernel_rfl) fun R hR => ?_); simp only [go_sem, s19, s20, s21, hz]) | ((first | (refine hR _ ?_; clear hR R) | refine awp_skip ?_ | refine awp_exit ?_ | refine awp_ret ?_); try simp only [thenA, inBlockA, reduceIte, reduceCtorEq, Nat.reduceEqDiff, if_false, if_true]) | ((first | refine hK _ ?_ | (clear hK K; first | refine hK _ ?_ | (clear hK K; first | refine hK _ ?_ | (clear hK K; first | refine hK _ ?_ | (clear hK K; refine hK _ ?_))))); clear hK K) | refine awp_true rfl rfl ?_ | refine awp_false rfl rfl ?_ | refine awp_block ?_ | refine And.intro (by first | ((repeat' first | omega | exact trivial | rfl | assumption | (intro a e; subst e; rfl) | exact map_sz fun a => (by simp only [go_sem]) | refine And.intro ?_ ?_); done) | fail) ?_ | fail)
          (first | refine ret_pure ?_ ?_ ?_ | refine ret_ro ?_ ?_ ?_); focus exact (by simp only [Try.results45, resOkL, resOk, Try.ntmps45, List.toList_toArray]; first | decide | (simp only [go_sem]; done) | (simp only [go_sem]; and_intros <;> first | omega | rfl | decide))
          rotate_left; focus exact (by repeat (first | exact Fr.rfl' _ _ | assumption | refine Fr.updk ?_ (by omega) _))
          simp only [resA, resV, Try.results45, go_sem]
          all_goals try (first | exact Co.t2 (.dat rfl) (.dat rfl) | exact Co.t3 (.dat rfl) (.dat rfl) (.dat rfl))
          exact co_i hv
def rdyG (g : List Int) (rs : List Rl) (t : Tm) : Int := if rlOk g rs ≠ 0 then rlOk g rs else own g t
set_option maxRecDepth 20000 in
theorem ready_tri (g : List Int) (rs : List Rl) (hrl : rs.length ≤ 4000000) (t : Tm) : Tri Try.prog 96 [.d (sgDV g), .d (rlsDV rs), .d (tmDV t)] (pure' (iA (rdyG g rs t))) := by
  have hc := rwCheck_tri g rs hrl
  refine tri_enter Try.func96 rfl Try.ntmps96 (by simp only [List.length_cons, List.length_nil]; omega) fun w0 h0 k hrd hwr => ?_
  unfold rdyG
  cases hs : (rlOk g rs != 0) with
  | true =>
    rw [if_pos (by simpa using hs)]
    repeat' (first | refine awp_seq_k fun K hK => ?_ | ((first | refine awp_region_k (by kernel_rfl) fun R hR => ?_ | refine awp_draw mixed (by kernel_rfl) (by kernel_rfl) fun R hR => ?_); simp only [go_sem, hs]) | ((first | (refine hR _ ?_; clear hR R) | refine awp_skip ?_ | refine awp_exit ?_ | refine awp_ret ?_); try simp only [thenA, inBlockA, reduceIte, reduceCtorEq, Nat.reduceEqDiff, if_false, if_true]) | ((first | refine hK _ ?_ | (clear hK K; first | refine hK _ ?_ | (clear hK K; first | refine hK _ ?_ | (clear hK K; first | refine hK _ ?_ | (clear hK K; refine hK _ ?_))))); clear hK K) | refine awp_true rfl rfl ?_ | refine awp_false rfl rfl ?_ | refine awp_block ?_ | ((first | refine CallK.pure (enter45) (hc) ?_ ?_ | refine CallD.pure (enter45) (hc) ?_ ?_); (focus first | ((repeat (first | exact trivial | refine ⟨(by first | exact Or.inl rfl | exact Or.inr rfl), ?_⟩)); done) | (simp only [coL, AV.dat, true_or, or_true, AV.d.injEq, go_sem]; done)); simp only [go_sem, hs]) | refine And.intro (by first | ((repeat' first | omega | exact trivial | rfl | assumption | (intro a e; subst e; rfl) | exact map_sz fun a => (by simp only [go_sem]) | refine And.intro ?_ ?_); done) | fail) ?_ | fail)
    (first | refine ret_pure ?_ ?_ ?_ | refine ret_ro ?_ ?_ ?_); focus exact (by simp only [Try.results96, resOkL, resOk, Try.ntmps96, List.toList_toArray]; first | decide | (simp only [go_sem]; done) | (simp only [go_sem]; and_intros <;> first | omega | rfl | decide))
    rotate_left; focus exact (by repeat (first | exact Fr.rfl' _ _ | assumption | refine Fr.updk ?_ (by omega) _))
    simp only [resA, resV, Try.results96, go_sem]
    all_goals try (first | exact Co.t2 (.dat rfl) (.dat rfl) | exact Co.t3 (.dat rfl) (.dat rfl) (.dat rfl))
    exact .dat rfl
  | false =>
    rw [if_neg (by simpa using hs)]
    repeat' (first | refine awp_seq_k fun K hK => ?_ | ((first | refine awp_region_k (by kernel_rfl) fun R hR => ?_ | refine awp_draw mixed (by kernel_rfl) (by kernel_rfl) fun R hR => ?_); simp only [go_sem, hs]) | ((first | (refine hR _ ?_; clear hR R) | refine awp_skip ?_ | refine awp_exit ?_ | refine awp_ret ?_); try simp only [thenA, inBlockA, reduceIte, reduceCtorEq, Nat.reduceEqDiff, if_false, if_true]) | ((first | refine hK _ ?_ | (clear hK K; first | refine hK _ ?_ | (clear hK K; first | refine hK _ ?_ | (clear hK K; first | refine hK _ ?_ | (clear hK K; refine hK _ ?_))))); clear hK K) | refine awp_true rfl rfl ?_ | refine awp_false rfl rfl ?_ | refine awp_block ?_ | ((first | refine CallK.pure (enter45) (hc) ?_ ?_ | refine CallD.pure (enter45) (hc) ?_ ?_ | refine CallK.pure (enter68) (own_tri g t) ?_ ?_ | refine CallD.pure (enter68) (own_tri g t) ?_ ?_); (focus first | ((repeat (first | exact trivial | refine ⟨(by first | exact Or.inl rfl | exact Or.inr rfl), ?_⟩)); done) | (simp only [coL, AV.dat, true_or, or_true, AV.d.injEq, go_sem]; done)); simp only [go_sem, hs]) | refine And.intro (by first | ((repeat' first | omega | exact trivial | rfl | assumption | (intro a e; subst e; rfl) | exact map_sz fun a => (by simp only [go_sem]) | refine And.intro ?_ ?_); done) | fail) ?_ | fail)
    (first | refine ret_pure ?_ ?_ ?_ | refine ret_ro ?_ ?_ ?_); focus exact (by simp only [Try.results96, resOkL, resOk, Try.ntmps96, List.toList_toArray]; first | decide | (simp only [go_sem]; done) | (simp only [go_sem]; and_intros <;> first | omega | rfl | decide))
    rotate_left; focus exact (by repeat (first | exact Fr.rfl' _ _ | assumption | refine Fr.updk ?_ (by omega) _))
    simp only [resA, resV, Try.results96, go_sem]
    all_goals try (first | exact Co.t2 (.dat rfl) (.dat rfl) | exact Co.t3 (.dat rfl) (.dat rfl) (.dat rfl))
    exact .dat rfl
end Go.Proofs.Ytmeekpinkfpnhaa
namespace Go.Proofs.Ytmeekpinkfpnhaa
open Go.RowKit
abbrev plD (q : List Int × Tm) : DV := gI q.1
theorem plPL_append : ∀ (a b : List Tm) (i : Nat), plPL (a ++ b) i = plPL a i ++ plPL b (i + a.length)
  | [], b, i => by simp [plPL]
  | x :: a, b, i => by rw [List.cons_append, plPL, plPL, plPL_append a b, List.append_assoc, List.length_cons, show i + 1 + a.length = i + (a.length + 1) by omega]
theorem plPL_take {us : List Tm} {i : Nat} (hi : i < us.length) : plPL (us.take (i + 1)) 0 = plPL (us.take i) 0 ++ (plP us[i]).map fun q => ((i : Int) :: q.1, q.2) := by
  rw [List.take_succ_eq_append_getElem hi, plPL_append, List.length_take, Nat.min_eq_left (by omega), Nat.zero_add, plPL, plPL, List.append_nil]
theorem plP_len (t : Tm) : (plP t).length = t.size := by
  have := congrArg List.length (plP_snd t)
  rw [List.length_map, parts_len] at this; exact this
theorem plPL_len (us : List Tm) (i : Nat) : (plPL us i).length = Tm.size.sizes us := by
  have := congrArg List.length (plPL_snd us i)
  rw [List.length_map, ← sizes_parts] at this; exact this
theorem plP_deep : ∀ (t : Tm), ∀ q ∈ plP t, q.1.length < t.size := by
  refine Tm.ind fun t ih q hq => ?_
  rw [plP_eq, List.mem_append] at hq
  rcases hq with hq | hq
  · obtain ⟨j, hj, p, h1, h2⟩ := plPL_mem _ _ _ hq
    have : p.length < t.us[j].size := ih _ (List.getElem_mem hj) (p, q.2) h2
    have := Tm.size_at hj
    rw [h1, List.length_cons]
    omega
  · rw [List.mem_singleton.1 hq]
    have := t.size_eq
    simp; omega
def PlSpec (t : Tm) : Prop := t.size ≤ 4000000 → Tri Try.prog 99 [.d (tmDV t)] (pure' (.d (.sl ((plP t).map plD))))
set_option maxHeartbeats 1000000 in
set_option maxRecDepth 20000 in
theorem places_step (t : Tm) (ih : ∀ u ∈ t.us, PlSpec u) : PlSpec t := by
  intro hsz
  have hlen := t.len_lt
  have hts := t.size_eq
  refine tri_enter Try.func99 rfl Try.ntmps99 (by simp only [List.length_cons, List.length_nil]; omega) fun w0 h0 k hrd hwr => ?_
  repeat' (first | refine awp_ghost (ghost_nil (i := 3) (e := 22) rfl) ?_ | refine awp_seq_k fun K hK => ?_ | ((first | refine awp_region_k (by kernel_rfl) fun R hR => ?_ | refine awp_draw mixed (by kernel_rfl) (by kernel_rfl) fun R hR => ?_); simp only [go_sem]) | ((first | (refine hR _ ?_; clear hR R) | refine awp_skip ?_ | refine awp_exit ?_ | refine awp_ret ?_); try simp only [thenA, inBlockA, reduceIte, reduceCtorEq, Nat.reduceEqDiff, if_false, if_true]) | ((first | refine hK _ ?_ | (clear hK K; first | refine hK _ ?_ | (clear hK K; first | refine hK _ ?_ | (clear hK K; first | refine hK _ ?_ | (clear hK K; refine hK _ ?_))))); clear hK K) | refine awp_true rfl rfl ?_ | refine awp_false rfl rfl ?_ | refine awp_block ?_ | refine And.intro (by first | ((repeat' first | omega | exact trivial | rfl | assumption | (intro a e; subst e; rfl) | exact map_sz fun a => (by simp only [go_sem]) | refine And.intro ?_ ?_); done) | fail) ?_ | fail)
  refine awp_loop (fun σ => ∃ i : Nat, σ.t 1 = .ptr (k, 0) 0 ∧ σ.t 3 = .own (k + 1 + 1, 0) ((plPL (t.us.take i) 0).map plD) ∧ σ.t 4 = iA i ∧ σ.h (k, 0) = some (.cells 27 [iA t.v, iA t.f, .d (.sl (t.us.map tmDV))]) ∧
    σ.h (k + 1 + 1, 0) = some (.perm 22 (plPL (t.us.take i) 0).length) ∧ Fr k h0 σ.h ∧ k + 1 + 1 < σ.k ∧ i ≤ t.us.length) (fun σ => t.us.length - (intOf' (σ.t 4)).toNat) ?_ ?_
  · refine ⟨0, ?_⟩
    simp only [go_sem, List.take_zero, plPL, List.map_nil]
    and_intros; all_goals try (first | rfl | omega | assumption | ((repeat (first | exact Fr.rfl' _ _ | assumption | refine Fr.updk ?_ (by omega) _)); done))
  · rintro σ ⟨i, s1, s3, s4, sh, sp, hF, hk, hi⟩
    have hne := ltne (show k < σ.k by omega)
    have hne2 := ltne hk
    have hml := plPL_len (t.us.take i) 0
    have hmt := sizes_take t.us i
    rcases Nat.lt_or_ge i t.us.length with hlt | hge
    · have hz : (i : Int) < (t.us.length : Int) := by omega
      have e1 : (t.us.map tmDV).getD i default = tmDV t.us[i] := nth_map tmDV hlt _
      have hs := Tm.size_at hlt
      have h2 := ih _ (List.getElem_mem hlt) (by omega)
      have hpl := plP_len t.us[i]
      have hmt2 := sizes_take t.us (i + 1)
      have hml2 := plPL_len (t.us.take (i + 1)) 0
      have hcut := congrArg List.length (plPL_take hlt)
      rw [List.length_append, List.length_map] at hcut
      repeat' (first | refine awp_seq_k fun K hK => ?_ | ((first | refine awp_region_k (by kernel_rfl) fun R hR => ?_ | refine awp_draw mixed (by kernel_rfl) (by kernel_rfl) fun R hR => ?_); simp only [go_sem, s1, s3, s4, sh, sp, hz, e1, hne, hne2, Int.toNat_natCast]) | ((first | (refine hR _ ?_; clear hR R) | refine awp_skip ?_ | refine awp_exit ?_ | refine awp_ret ?_); try simp only [thenA, inBlockA, reduceIte, reduceCtorEq, Nat.reduceEqDiff, if_false, if_true]) | ((first | refine hK _ ?_ | (clear hK K; first | refine hK _ ?_ | (clear hK K; first | refine hK _ ?_ | (clear hK K; first | refine hK _ ?_ | (clear hK K; refine hK _ ?_))))); clear hK K) | refine awp_true rfl rfl ?_ | refine awp_false rfl rfl ?_ | refine awp_block ?_ | ((first | refine CallK.pure (enter99) (h2) ?_ ?_ | refine CallD.pure (enter99) (h2) ?_ ?_); (focus first | ((repeat (first | exact trivial | refine ⟨(by first | exact Or.inl rfl | exact Or.inr rfl), ?_⟩)); done) | (simp only [coL, AV.dat, true_or, or_true, AV.d.injEq, go_sem]; done)); simp only [go_sem, s1, s3, s4, sh, sp, hz, e1, hne, hne2, Int.toNat_natCast]) | refine And.intro (by first | ((repeat' first | omega | exact trivial | rfl | assumption | (intro a e; subst e; rfl) | exact map_sz fun a => (by simp only [go_sem]) | refine And.intro ?_ ?_); done) | fail) ?_ | fail)
      refine awp_loop (fun τ => ∃ j : Nat, τ.t 1 = .ptr (k, 0) 0 ∧ τ.t 3 = .own (k + 1 + 1, 0) ((plPL (t.us.take i) 0 ++ ((plP t.us[i]).take j).map fun q => ((i : Int) :: q.1, q.2)).map plD) ∧ τ.t 4 = iA i ∧ τ.t 5 = .d (.sl ((plP t.us[i]).map plD)) ∧ τ.t 6 = iA j ∧
        τ.h (k, 0) = some (.cells 27 [iA t.v, iA t.f, .d (.sl (t.us.map tmDV))]) ∧ τ.h (k + 1 + 1, 0) = some (.perm 22 ((plPL (t.us.take i) 0).length + j)) ∧ Fr k h0 τ.h ∧ k + 1 + 1 < τ.k ∧ j ≤ (plP t.us[i]).length) (fun τ => (plP t.us[i]).length - (intOf' (τ.t 6)).toNat) ?_ ?_
      · refine ⟨0, ?_⟩
        simp only [go_sem, s1, s3, s4, sh, sp, hne, hne2, List.take_zero, List.map_nil, List.append_nil]
        and_intros; all_goals try (first | rfl | omega | assumption | ((repeat (first | exact Fr.rfl' _ _ | assumption | refine Fr.updk ?_ (by omega) _)); done))
      · rintro τ ⟨j, u1, u3, u4, u5, u6, uh, up, uF, uk, uj⟩
        have r1 := ltne (show k < τ.k by omega)
        have r2 := ltne uk
        rcases Nat.lt_or_ge j (plP t.us[i]).length with jlt | jge
        · have jz : (j : Int) < ((plP t.us[i]).length : Int) := by omega
          have e2 : ((plP t.us[i]).map plD).getD j default = plD (plP t.us[i])[j] := nth_map plD jlt _
          have hdp := plP_deep t.us[i] _ (List.getElem_mem jlt)
          have etk : (plPL (t.us.take i) 0 ++ ((plP t.us[i]).take j).map fun q => ((i : Int) :: q.1, q.2)).map plD ++ [.sl (iD i :: (plP t.us[i])[j].1.map iD)] = (plPL (t.us.take i) 0 ++ ((plP t.us[i]).take (j + 1)).map fun q => ((i : Int) :: q.1, q.2)).map plD := by
            rw [List.take_succ_eq_append_getElem jlt]
            simp only [List.map_append, List.map_cons, List.map_nil, List.append_assoc]
            rfl
          have hll : ((plPL (t.us.take i) 0 ++ ((plP t.us[i]).take j).map fun q => ((i : Int) :: q.1, q.2)).map plD).length = (plPL (t.us.take i) 0).length + j := by
            rw [List.length_map, List.length_append, List.length_map, List.length_take, Nat.min_eq_left uj]
          have hll2 : ((plPL (t.us.take i) 0 ++ ((plP t.us[i]).take (j + 1)).map fun q => ((i : Int) :: q.1, q.2)).map plD).length = (plPL (t.us.take i) 0).length + (j + 1) := by
            rw [List.length_map, List.length_append, List.length_map, List.length_take, Nat.min_eq_left (by omega)]
          have hcl : ∀ y ∈ (plPL (t.us.take i) 0 ++ ((plP t.us[i]).take j).map fun q => ((i : Int) :: q.1, q.2)).map plD, y.cells.length = 1 := map_sz fun a => rfl
          generalize ((plPL (t.us.take i) 0 ++ ((plP t.us[i]).take j).map fun q => ((i : Int) :: q.1, q.2)).map plD) = L at *
          repeat' (first | refine awp_seq_k fun K hK => ?_ | ((first | refine awp_region_k (by kernel_rfl) fun R hR => ?_ | refine awp_draw mixed (by kernel_rfl) (by kernel_rfl) fun R hR => ?_); simp only [go_sem, u1, u3, u4, u5, u6, uh, up, jz, e2, r1, r2, hll, List.length_map, Int.toNat_natCast]) | ((first | (refine hR _ ?_; clear hR R) | refine awp_skip ?_ | refine awp_exit ?_ | refine awp_ret ?_); try simp only [thenA, inBlockA, reduceIte, reduceCtorEq, Nat.reduceEqDiff, if_false, if_true]) | ((first | refine hK _ ?_ | (clear hK K; first | refine hK _ ?_ | (clear hK K; first | refine hK _ ?_ | (clear hK K; first | refine hK _ ?_ | (clear hK K; refine hK _ ?_))))); clear hK K) | refine awp_true rfl rfl ?_ | refine awp_false rfl rfl ?_ | refine awp_block ?_ | refine And.intro (by first | ((repeat' first | omega | exact trivial | rfl | assumption | (intro a e; subst e; rfl) | exact map_sz fun a => (by simp only [go_sem]) | refine And.intro ?_ ?_); done) | fail) ?_ | fail)
          refine ⟨⟨j + 1, ?_⟩, ?_⟩
          rotate_left
          · simp only [go_sem, u1, u3, u4, u5, u6, uh, up, r1, r2, etk, hll2]; omega
          simp only [go_sem, u1, u3, u4, u5, u6, uh, up, r1, r2, etk, hll2]
          and_intros; all_goals try (first | rfl | omega | assumption | ((repeat (first | exact Fr.rfl' _ _ | assumption | refine Fr.updk ?_ (by omega) _)); done))
        · have jz : ¬ ((j : Int) < ((plP t.us[i]).length : Int)) := by omega
          obtain rfl : j = (plP t.us[i]).length := by omega
          rw [List.take_length, ← plPL_take hlt] at u3
          rw [← hcut] at up
          repeat' (first | refine awp_seq_k fun K hK => ?_ | ((first | refine awp_region_k (by kernel_rfl) fun R hR => ?_ | refine awp_draw mixed (by kernel_rfl) (by kernel_rfl) fun R hR => ?_); simp only [go_sem, u1, u3, u4, u5, u6, uh, up, jz, r1, r2]) | ((first | (refine hR _ ?_; clear hR R) | refine awp_skip ?_ | refine awp_exit ?_ | refine awp_ret ?_); try simp only [thenA, inBlockA, reduceIte, reduceCtorEq, Nat.reduceEqDiff, if_false, if_true]) | ((first | refine hK _ ?_ | (clear hK K; first | refine hK _ ?_ | (clear hK K; first | refine hK _ ?_ | (clear hK K; first | refine hK _ ?_ | (clear hK K; refine hK _ ?_))))); clear hK K) | refine awp_true rfl rfl ?_ | refine awp_false rfl rfl ?_ | refine awp_block ?_ | refine And.intro (by first | ((repeat' first | omega | exact trivial | rfl | assumption | (intro a e; subst e; rfl) | exact map_sz fun a => (by simp only [go_sem]) | refine And.intro ?_ ?_); done) | fail) ?_ | fail)
          refine ⟨⟨i + 1, ?_⟩, ?_⟩
          rotate_left
          · simp only [go_sem, u1, u3, u4, uh, up, r1, r2, s4]; omega
          simp only [go_sem, u1, u3, u4, uh, up, r1, r2, s4]
          and_intros; all_goals try (first | rfl | omega | assumption | ((repeat (first | exact Fr.rfl' _ _ | assumption | refine Fr.updk ?_ (by omega) _)); done))
    · have hz : ¬ ((i : Int) < (t.us.length : Int)) := by omega
      obtain rfl : i = t.us.length := by omega
      rw [List.take_length] at s3 sp hml
      have efin : (plPL t.us 0).map plD ++ [.sl []] = (plP t).map plD := by rw [plP_eq]; simp [plD]
      repeat' (first | refine awp_seq_k fun K hK => ?_ | ((first | refine awp_region_k (by kernel_rfl) fun R hR => ?_ | refine awp_draw mixed (by kernel_rfl) (by kernel_rfl) fun R hR => ?_); simp only [go_sem, s1, s3, s4, sh, sp, hz, hne, hne2, List.length_map]) | ((first | (refine hR _ ?_; clear hR R) | refine awp_skip ?_ | refine awp_exit ?_ | refine awp_ret ?_); try simp only [thenA, inBlockA, reduceIte, reduceCtorEq, Nat.reduceEqDiff, if_false, if_true]) | ((first | refine hK _ ?_ | (clear hK K; first | refine hK _ ?_ | (clear hK K; first | refine hK _ ?_ | (clear hK K; first | refine hK _ ?_ | (clear hK K; refine hK _ ?_))))); clear hK K) | refine awp_true rfl rfl ?_ | refine awp_false rfl rfl ?_ | refine awp_block ?_ | refine And.intro (by first | ((repeat' first | omega | exact trivial | rfl | assumption | (intro a e; subst e; rfl) | exact map_sz fun a => (by simp only [go_sem]) | refine And.intro ?_ ?_); done) | fail) ?_ | fail)
      (first | refine ret_pure ?_ ?_ ?_ | refine ret_ro ?_ ?_ ?_); focus exact (by simp only [Try.results99, resOkL, resOk, Try.ntmps99, List.toList_toArray]; first | decide | (simp only [go_sem, efin]; done) | (simp only [go_sem, efin]; and_intros <;> first | omega | rfl | decide))
      rotate_left; focus exact (by repeat (first | exact Fr.rfl' _ _ | assumption | refine Fr.updk ?_ (by omega) _))
      simp only [resA, resV, Try.results99, go_sem, efin]
      all_goals try (first | exact Co.t2 (.dat rfl) (.dat rfl) | exact Co.t3 (.dat rfl) (.dat rfl) (.dat rfl))
      all_goals exact .dat rfl
theorem places_tri : ∀ t : Tm, PlSpec t := Tm.ind places_step
end Go.Proofs.Ytmeekpinkfpnhaa
namespace Go.Proofs.Ytmeekpinkfpnhaa
def grAll (h : Int × Int → Bool) (sv sf tv tf : Int) (ta : List Int) (i : Int) : Bool := (sv == 0 && tv == 0 && decide (tf ≤ sf)) && ta.all fun b => h (i, b)
def grYes (f h : Int × Int → Bool) (sv : Int) (sa : List Int) (k : Int) : Bool := sv == 0 && sa.any fun a => h (a, k) || f (a, k)
def grG (f h : Int × Int → Bool) (sv sf : Int) (sa : List Int) (tv tf : Int) (ta : List Int) (i k : Int) : Bool :=
  if grAll h sv sf tv tf ta i && sf == tf then (if grAll h sv sf tv tf ta i && decide (tf < sf) then true else grYes f h sv sa k) || lexi f h sa ta
  else if grAll h sv sf tv tf ta i && decide (tf < sf) then true else grYes f h sv sa k
theorem grG_eq (f h : Int × Int → Bool) {sv tv : Int} (sf : Int) (sa : List Int) (tf : Int) (ta : List Int) (i k : Int) (h1 : 0 ≤ sv) (h2 : 0 ≤ tv) : grG f h sv sf sa tv tf ta i k = grV f h sv sf sa tv tf ta i k := by
  unfold grG grV
  have e : (sa.any fun a => h (a, k) || f (a, k)) = sa.any fun a => f (a, k) || h (a, k) := by
    congr 1; funext a; exact Bool.or_comm _ _
  have e2 : ta.all (fun b => h (i, b)) = !(ta.any fun b => !h (i, b)) := by rw [List.all_eq_not_any_not]
  rw [grYes, e]
  unfold grAll
  rw [e2]
  generalize (sa.any fun a => f (a, k) || h (a, k)) = q
  generalize (ta.any fun b => !h (i, b)) = r
  generalize lexi f h sa ta = l
  by_cases hs : sv > 0
  · have : (sv == 0) = false := by simp; omega
    simp [this, hs]
  · obtain rfl : sv = 0 := by omega
    by_cases ht : tv > 0
    · have : (tv == 0) = false := by simp; omega
      simp [this, ht]
    · obtain rfl : tv = 0 := by omega
      rcases Int.lt_trichotomy sf tf with hf | hf | hf
      · have e1 : decide (tf ≤ sf) = false := by simp; omega
        simp [e1, hf]
      · subst hf
        cases q <;> cases r <;> cases l <;> simp
      · have e1 : decide (tf ≤ sf) = true := by simp; omega
        have e3 : decide (tf < sf) = true := by simpa using hf
        have e4 : (sf == tf) = false := by simp; omega
        have e5 : ¬ sf < tf := by omega
        simp only [e1, e3, e4, e5]
        cases q <;> cases r <;> simp [hf]
def sameN (ps pt : List Tm) (p : Int × Int) : Bool := match ps[p.1.toNat]?, pt[p.2.toNat]? with
  | some x, some y => same x y
  | _, _ => false
theorem sameN_at {ps pt : List Tm} {a b : Nat} (ha : a < ps.length) (hb : b < pt.length) : sameN ps pt (a, b) = same ps[a] pt[b] := by
  simp [sameN, ha, hb]
theorem grG_right {s t : Tm} {h : Int × Int → Bool} {i k : Nat} (hi : i < (parts s).length) (hk : k < (parts t).length) (hv : 0 ≤ (parts s)[i].v) (hv' : 0 ≤ (parts t)[k].v)
    (hK : Known (pn s 0) (pn t 0) (sameN (parts s) (parts t)) h (lexlt i k)) :
    grG (sameN (parts s) (parts t)) h (parts s)[i].v (parts s)[i].f ((argsOf s)[i]'(by rw [argsOf_len]; exact hi)) (parts t)[k].v (parts t)[k].f ((argsOf t)[k]'(by rw [argsOf_len]; exact hk)) i k = gt (parts s)[i] (parts t)[k] := by
  have hi' : i < (pn s 0).length := by rw [pn_len]; exact hi
  have hk' : k < (pn t 0).length := by rw [pn_len]; exact hk
  have e1 : (parts s)[i] = (pn s 0)[i].1 := by simp [← pn_fst s 0]
  have e2 : (parts t)[k] = (pn t 0)[k].1 := by simp [← pn_fst t 0]
  have e3 : (argsOf s)[i]'(by rw [argsOf_len]; exact hi) = (pn s 0)[i].2 := by simp [argsOf]
  have e4 : (argsOf t)[k]'(by rw [argsOf_len]; exact hk) = (pn t 0)[k].2 := by simp [argsOf]
  rw [grG_eq _ _ _ _ _ _ _ _ hv hv', e3, e4]
  have := hK.grP hi' hk' (pn_well0 s i hi') (pn_well0 t k hk')
  rw [grP] at this
  simp only [e1, e2]
  exact this
theorem known_same {s t : Tm} {h : Int × Int → Bool} {D : Nat → Nat → Prop} (H : ∀ a b (ha : a < (parts s).length) (hb : b < (parts t).length), D a b → h (a, b) = gt (parts s)[a] (parts t)[b]) : Known (pn s 0) (pn t 0) (sameN (parts s) (parts t)) h D := by
  intro a b u v hd hu hv
  rw [← List.getElem?_map, pn_fst] at hu hv
  obtain ⟨ha, e⟩ := List.getElem?_eq_some_iff.1 hu
  obtain ⟨hb, e'⟩ := List.getElem?_eq_some_iff.1 hv
  subst e e'
  exact ⟨sameN_at ha hb, H a b ha hb hd⟩
end Go.Proofs.Ytmeekpinkfpnhaa
namespace Go.Proofs.Ytmeekpinkfpnhaa
open Go.RowKit
theorem argsOf_nat (t : Tm) {i : Nat} (hi : i < (argsOf t).length) {m : Nat} (hm : m < (argsOf t)[i].length) : ∃ j : Nat, (argsOf t)[i][m] = (j : Int) ∧ j < i := by
  have hi' : i < (pn t 0).length := by simpa [argsOf] using hi
  obtain ⟨h1, h2⟩ := pn_well0 t i hi' _ (List.getElem?_eq_getElem hi')
  have e : (argsOf t)[i] = (pn t 0)[i].2 := by simp [argsOf]
  have hm' : m < (pn t 0)[i].1.us.length := by rw [← h1, ← e]; exact hm
  obtain ⟨j, h3, h4, _⟩ := h2 m _ (List.getElem?_eq_getElem hm')
  refine ⟨j, ?_, h4⟩
  have h5 : (argsOf t)[i][m]? = some (j : Int) := by rw [e]; exact h3
  rw [List.getElem?_eq_getElem hm] at h5
  exact Option.some.inj h5
mutual
theorem parts_size : ∀ (t u : Tm), u ∈ parts t → u.size ≤ t.size
  | .mk v f us, u, h => by
    rw [parts, List.mem_append] at h
    rcases h with h | h
    · have := partsL_size us u h; simp only [Tm.size]; omega
    · rw [List.mem_singleton.1 h]; exact Nat.le_refl _
theorem partsL_size : ∀ (us : List Tm) (u : Tm), u ∈ partsL us → u.size ≤ Tm.size.sizes us
  | [], _, h => by simp [partsL] at h
  | x :: xs, u, h => by
    rw [partsL, List.mem_append] at h
    simp only [Tm.size.sizes]
    rcases h with h | h
    · have := parts_size x u h; omega
    · have := partsL_size xs u h; omega
end
theorem argsOf_fits (t : Tm) (hft : t.fits) {i : Nat} (hi : i < (argsOf t).length) : (argsOf t)[i].length ≤ 4000000 := by
  rw [argsOf_at t hi]
  have := parts_size t _ (List.getElem_mem (by rw [← argsOf_len]; exact hi))
  have h2 := Tm.len_lt ((parts t)[i]'(by rw [← argsOf_len]; exact hi))
  unfold Tm.fits at hft
  omega
def gtN (ps pt : List Tm) (p : Int × Int) : Bool := match ps[p.1.toNat]?, pt[p.2.toNat]? with
  | some x, some y => gt x y
  | _, _ => false
theorem gtN_at {ps pt : List Tm} {a b : Nat} (ha : a < ps.length) (hb : b < pt.length) : gtN ps pt (a, b) = gt ps[a] pt[b] := by
  simp [gtN, ha, hb]
def grN (s t : Tm) (i j : Nat) : Bool :=
  grG (sameN (parts s) (parts t)) (gtN (parts s) (parts t)) ((parts s).getD i (.mk 0 0 [])).v ((parts s).getD i (.mk 0 0 [])).f ((argsOf s).getD i []) ((parts t).getD j (.mk 0 0 [])).v ((parts t).getD j (.mk 0 0 [])).f ((argsOf t).getD j []) i j
theorem grN_right {s t : Tm} {i j : Nat} (hi : i < (parts s).length) (hj : j < (parts t).length) (hv : 0 ≤ (parts s)[i].v) (hv' : 0 ≤ (parts t)[j].v) : grN s t i j = gtN (parts s) (parts t) (i, j) := by
  unfold grN
  rw [getD_at hi, getD_at hj, getD_at (by rw [argsOf_len]; exact hi), getD_at (by rw [argsOf_len]; exact hj), gtN_at hi hj]
  exact grG_right hi hj hv hv' (known_same fun a b ha hb _ => gtN_at ha hb)
def rowA (ps pt : List Tm) (i j : Nat) : List AV := (List.range pt.length).map fun b => bA (decide (b < j) && gtN ps pt (i, b))
theorem rowA_len (ps pt : List Tm) (i j : Nat) : (rowA ps pt i j).length = pt.length := by simp [rowA]
theorem rowA_at {ps pt : List Tm} {i j b : Nat} (hb : b < j) (hj : j ≤ pt.length) : (rowA ps pt i j).getD b .junk = bA (gtN ps pt (i, b)) := by
  rw [List.getD_eq_getElem?_getD]; simp [rowA, show b < pt.length by omega, hb]
theorem rowA_0 (ps pt : List Tm) (i : Nat) : List.replicate pt.length (bA false) = rowA ps pt i 0 := by
  have : rowA ps pt i 0 = (List.range pt.length).map (fun _ => bA false) := by simp [rowA]
  rw [this, List.map_const', List.length_range]
theorem rowA_set {ps pt : List Tm} {i j : Nat} (hj : j < pt.length) : (rowA ps pt i j).set j (bA (gtN ps pt (i, j))) = rowA ps pt i (j + 1) := by
  apply List.ext_getElem?
  intro b
  rw [List.getElem?_set]
  by_cases hb : b < pt.length
  · by_cases e : j = b
    · subst e; simp [rowA, hb]
    · simp only [e, if_false]
      simp only [rowA, List.getElem?_map, List.getElem?_range hb, Option.map_some]
      have : (decide (b < j)) = decide (b < j + 1) := by simp; omega
      rw [this]
  · by_cases e : j = b
    · subst e; omega
    · simp [e, rowA, show pt.length ≤ b by omega]
def tabA (nm : Nat → Nm) (N m n : Nat) : List AV := (List.range N).map fun a => if a < n then .arr (nm a) 0 m else .nil
theorem tabA_len (nm : Nat → Nm) (N m n : Nat) : (tabA nm N m n).length = N := by simp [tabA]
theorem tabA_0 (nm : Nat → Nm) (N m : Nat) : List.replicate N AV.nil = tabA nm N m 0 := by
  have : tabA nm N m 0 = (List.range N).map (fun _ => .nil) := by simp [tabA]
  rw [this, List.map_const', List.length_range]
theorem tabA_at {nm : Nat → Nm} {N m n a : Nat} (ha : a < n) (hn : n ≤ N) : (tabA nm N m n).getD a .junk = .arr (nm a) 0 m := by
  rw [List.getD_eq_getElem?_getD]; simp [tabA, show a < N by omega, ha]
theorem tabA_set {nm : Nat → Nm} {N m n : Nat} (x : Nm) (hn : n < N) : (tabA nm N m n).set n (.arr x 0 m) = tabA (fun a => if a = n then x else nm a) N m (n + 1) := by
  apply List.ext_getElem?
  intro b
  rw [List.getElem?_set]
  by_cases hb : b < N
  · by_cases e : n = b
    · subst e; simp [tabA, hb]
    · simp only [e, if_false]
      simp only [tabA, List.getElem?_map, List.getElem?_range hb, Option.map_some]
      by_cases h : b < n
      · rw [if_pos h, if_pos (show b < n + 1 by omega), if_neg (show ¬ b = n by omega)]
      · rw [if_neg h, if_neg (show ¬ b < n + 1 by omega)]
  · by_cases e : n = b
    · subst e; omega
    · simp [e, tabA, show N ≤ b by omega]
theorem tabA_congr {nm nm' : Nat → Nm} {N m n : Nat} (h : ∀ a, a < n → nm a = nm' a) : tabA nm N m n = tabA nm' N m n := by
  unfold tabA
  apply List.map_congr_left
  intro a _
  by_cases ha : a < n
  · rw [if_pos ha, if_pos ha, h a ha]
  · rw [if_neg ha, if_neg ha]
end Go.Proofs.Ytmeekpinkfpnhaa
namespace Go.Proofs.Ytmeekpinkfpnhaa
open Go.RowKit
structure GCx (ps pt : List Tm) (la lb : List (List Int)) (T x y : Nm) (nm : Nat → Nm) (i j : Nat) (σ : St) : Prop where
  s5 : σ.t 5 = .d (.sl (ps.map tmDV))
  s6 : σ.t 6 = .d (.sl (pt.map tmDV))
  s7 : σ.t 7 = .d (.sl (la.map gI))
  s8 : σ.t 8 = .d (.sl (lb.map gI))
  s9 : σ.t 9 = .arr T 0 ps.length
  s10 : σ.t 10 = iA i
  s11 : σ.t 11 = iA j
  s12 : σ.t 12 = .ptr x 0
  s13 : σ.t 13 = .ptr y 0
  hx : ∀ h : i < ps.length, σ.h x = some (.cells 27 [iA ps[i].v, iA ps[i].f, .d (.sl (ps[i].us.map tmDV))])
  hy : ∀ h : j < pt.length, σ.h y = some (.cells 27 [iA pt[j].v, iA pt[j].f, .d (.sl (pt[j].us.map tmDV))])
  hT : σ.h T = some (.cells 94 (tabA nm ps.length pt.length (i + 1)))
  hr : ∀ a, a < i → σ.h (nm a) = some (.cells 4 (rowA ps pt a pt.length))
  hi : σ.h (nm i) = some (.cells 4 (rowA ps pt i j))
theorem GCx.keep {ps pt : List Tm} {la lb : List (List Int)} {T x y : Nm} {nm : Nat → Nm} {i j : Nat} {σ σ' : St} (h : GCx ps pt la lb T x y nm i j σ) (hh : σ'.h = σ.h) (ht : ∀ n ∈ [5, 6, 7, 8, 9, 10, 11, 12, 13], σ'.t n = σ.t n) : GCx ps pt la lb T x y nm i j σ' := by
  obtain ⟨s5, s6, s7, s8, s9, s10, s11, s12, s13, hx, hy, hT, hr, hi⟩ := h
  simp only [List.mem_cons, List.not_mem_nil, or_false, forall_eq_or_imp, forall_eq] at ht
  obtain ⟨e5, e6, e7, e8, e9, e10, e11, e12, e13⟩ := ht
  exact ⟨e5.trans s5, e6.trans s6, e7.trans s7, e8.trans s8, e9.trans s9, e10.trans s10, e11.trans s11, e12.trans s12, e13.trans s13, fun h => by rw [hh]; exact hx h, fun h => by rw [hh]; exact hy h, by rw [hh]; exact hT, fun a ha => by rw [hh]; exact hr a ha, by rw [hh]; exact hi⟩
structure GPost (ps pt : List Tm) (nm : Nat → Nm) (i j : Nat) (σ σ' : St) : Prop where
  t : ∀ n ∈ [2, 3, 5, 6, 7, 8, 9, 10, 11], σ'.t n = σ.t n
  k : σ.k ≤ σ'.k
  h : ∀ x, x ≠ nm i → σ'.h x = σ.h x
  hi : σ'.h (nm i) = some (.cells 4 (rowA ps pt i (j + 1)))
abbrev GKeep := Keep [2, 3, 5, 6, 7, 8, 9, 10, 11, 12, 13]
theorem Keep.cx {ps pt : List Tm} {la lb : List (List Int)} {T x y : Nm} {nm : Nat → Nm} {i j : Nat} {σ σ' : St} (h : GKeep σ σ') (hc : GCx ps pt la lb T x y nm i j σ) : GCx ps pt la lb T x y nm i j σ' :=
  hc.keep h.h fun n hn => h.t n (by simp only [List.mem_cons, List.not_mem_nil, or_false] at hn ⊢; omega)
theorem Keep.post {ps pt : List Tm} {nm : Nat → Nm} {i j : Nat} {σ σ' σ'' : St} (h : GKeep σ σ') (hp : GPost ps pt nm i j σ' σ'') : GPost ps pt nm i j σ σ'' :=
  ⟨fun n hn => (hp.t n hn).trans (h.t n (by simp only [List.mem_cons, List.not_mem_nil, or_false] at hn ⊢; omega)), Nat.le_trans h.k hp.k, fun z hz => (hp.h z hz).trans (by rw [h.h]), hp.hi⟩
theorem lexi_same {f h : Int × Int → Bool} {l m : List Int} {n : Nat} (hl : n < l.length) (hm : n < m.length) (hf : f (l[n], m[n]) = true) : lexi f h (l.drop (n + 1)) (m.drop (n + 1)) = lexi f h (l.drop n) (m.drop n) := by
  rw [List.drop_eq_getElem_cons hl, List.drop_eq_getElem_cons hm, lexi, if_pos hf]
theorem lexi_not {f h : Int × Int → Bool} {l m : List Int} {n : Nat} (hl : n < l.length) (hm : n < m.length) (hf : f (l[n], m[n]) = false) : lexi f h (l.drop n) (m.drop n) = h (l[n], m[n]) := by
  rw [List.drop_eq_getElem_cons hl, List.drop_eq_getElem_cons hm, lexi, if_neg (by simp [hf])]
section
variable {ps pt : List Tm} {la lb : List (List Int)} {T x y : Nm} {nm : Nat → Nm} {i j : Nat} {w0 : World} {Q : Exit → St → Prop}
variable (hi : i < ps.length) (hj : j < pt.length) (hi' : i < la.length) (hj' : j < lb.length) (hT : T ≠ nm i) (hnm : ∀ a, a < i → nm a ≠ nm i)
variable (hsa : ∀ (n : Nat) (h : n < la[i].length), ∃ a : Nat, la[i][n] = (a : Int) ∧ a < i) (hta : ∀ (n : Nat) (h : n < lb[j].length), ∃ a : Nat, lb[j][n] = (a : Int) ∧ a < j)
variable (hla : la[i].length ≤ 4000000) (hlb : lb[j].length ≤ 4000000)
include hi hj hi' hj' hT hnm hsa hta hla hlb
theorem gre_store (σ : St) (hc : GCx ps pt la lb T x y nm i j σ) (h14 : σ.t 14 = bA (gtN ps pt (i, j))) (hQ : ∀ σ', GPost ps pt nm i j σ σ' → Q .normal σ') {N : Nat} {c : Code} (hN : (Try.f16).ntmps = N) (hc : bodyAt (Try.f16) [true,true,true,true,false,true,false,false,true,false,false,true,true,false,false,true,false,false,true,true,true,true,true,true,true] = some c) : awp Try.prog w0 N c Q σ := by
  obtain rfl := (Try.ntmps16).symm.trans hN; obtain rfl := Option.some.inj (show some _ = some c from hc); clear hN hc
  obtain ⟨s5, s6, s7, s8, s9, s10, s11, s12, s13, hx, hy, hTT, hr, hii⟩ := hc
  have e1 : (tabA nm ps.length pt.length (i + 1)).getD i .junk = .arr (nm i) 0 pt.length := tabA_at (Nat.lt_succ_self i) hi
  have e2 : ¬ (T = nm i) := hT
  repeat' (first | refine awp_seq_k fun K hK => ?_ | ((first | refine awp_region_k (by kernel_rfl) fun R hR => ?_ | refine awp_draw mixed (by kernel_rfl) (by kernel_rfl) fun R hR => ?_); simp only [go_sem, s9, s10, s11, h14, hTT, hii, e1, e2, Int.toNat_natCast, Nat.mul_one, tabA_len, rowA_len, rowA_set hj]) | ((first | (refine hR _ ?_; clear hR R) | refine awp_skip ?_ | refine awp_exit ?_ | refine awp_ret ?_); try simp only [thenA, inBlockA, reduceIte, reduceCtorEq, Nat.reduceEqDiff, if_false, if_true]) | ((first | refine hK _ ?_ | (clear hK K; first | refine hK _ ?_ | (clear hK K; first | refine hK _ ?_ | (clear hK K; first | refine hK _ ?_ | (clear hK K; refine hK _ ?_))))); clear hK K) | refine awp_true rfl rfl ?_ | refine awp_false rfl rfl ?_ | refine awp_block ?_ | refine And.intro (by first | ((repeat' first | omega | exact trivial | rfl | assumption | (intro a e; subst e; rfl) | exact map_sz fun a => (by simp only [go_sem]) | refine And.intro ?_ ?_); done) | fail) ?_ | fail)
  refine hQ _ ⟨?_, Nat.le_succ _, fun z hz => ?_, ?_⟩
  · simp only [go_sem]
  · simp only [go_sem, hz]
  · simp only [go_sem]
set_option maxHeartbeats 4000000 in
theorem gre_lex (σ : St) (hc : GCx ps pt la lb T x y nm i j σ) (yes all : Bool) (h14 : σ.t 14 = bA yes) (h17 : σ.t 17 = bA all) (hall : all = true → ps[i].f = pt[j].f → la[i].length = lb[j].length)
    (hv : (if (all && ps[i].f == pt[j].f) = true then yes || lexi (sameN ps pt) (gtN ps pt) la[i] lb[j] else yes) = gtN ps pt (i, j)) (hQ : ∀ σ', GPost ps pt nm i j σ σ' → Q .normal σ') {N : Nat} {c : Code} (hN : (Try.f16).ntmps = N) (hc : bodyAt (Try.f16) [true,true,true,true,false,true,false,false,true,false,false,true,true,false,false,true,false,false,true,true,true,true,true,true] = some c) : awp Try.prog w0 N c Q σ := by
  have fin : ∀ σ1, GKeep σ σ1 → σ1.t 14 = bA (gtN ps pt (i, j)) → ∀ {c' : Code}, bodyAt (Try.f16) [true,true,true,true,false,true,false,false,true,false,false,true,true,false,false,true,false,false,true,true,true,true,true,true,true] = some c' → awp Try.prog w0 N c' Q σ1 := by
    intro σ1 g1 g2 c' hc'
    exact gre_store hi hj hi' hj' hT hnm hsa hta hla hlb σ1 (g1.cx ‹_›) g2 (fun σ' hp => hQ σ' (g1.post hp)) hN hc'
  obtain rfl := (Try.ntmps16).symm.trans hN; obtain rfl := Option.some.inj (show some _ = some c from hc); clear hN hc
  obtain ⟨s5, s6, s7, s8, s9, s10, s11, s12, s13, hx, hy, hTT, hr, hii⟩ := id hc
  have hx := hx hi
  have hy := hy hj
  have ea : (la.map gI).getD i default = gI la[i] := nth_map gI hi' _
  have eb : (lb.map gI).getD j default = gI lb[j] := nth_map gI hj' _
  by_cases hcond : (all && ps[i].f == pt[j].f) = true
  · rw [if_pos hcond] at hv
    rw [Bool.and_eq_true] at hcond
    obtain ⟨rfl, ef⟩ := hcond
    have hlen := hall rfl (by simpa using ef)
    repeat' (first | refine awp_seq_k fun K hK => ?_ | ((first | refine awp_region_k (by kernel_rfl) fun R hR => ?_ | refine awp_draw mixed (by kernel_rfl) (by kernel_rfl) fun R hR => ?_); simp only [go_sem, h17, s12, s13, hx, hy, ef]) | ((first | (refine hR _ ?_; clear hR R) | refine awp_skip ?_ | refine awp_exit ?_ | refine awp_ret ?_); try simp only [thenA, inBlockA, reduceIte, reduceCtorEq, Nat.reduceEqDiff, if_false, if_true]) | ((first | refine hK _ ?_ | (clear hK K; first | refine hK _ ?_ | (clear hK K; first | refine hK _ ?_ | (clear hK K; first | refine hK _ ?_ | (clear hK K; refine hK _ ?_))))); clear hK K) | refine awp_true rfl rfl ?_ | refine awp_false rfl rfl ?_ | refine awp_block ?_ | refine And.intro (by first | ((repeat' first | omega | exact trivial | rfl | assumption | (intro a e; subst e; rfl) | exact map_sz fun a => (by simp only [go_sem]) | refine And.intro ?_ ?_); done) | fail) ?_ | fail)
    refine awp_loop (fun τ => ∃ n : Nat, GKeep σ τ ∧ τ.t 14 = bA yes ∧ τ.t 19 = iA n ∧ n ≤ la[i].length ∧ lexi (sameN ps pt) (gtN ps pt) (la[i].drop n) (lb[j].drop n) = lexi (sameN ps pt) (gtN ps pt) la[i] lb[j]) (fun τ => la[i].length - (intOf' (τ.t 19)).toNat) ?_ ?_
    · refine ⟨0, (by repeat (first | exact Keep.of (by assumption) | exact Keep.rfl' _ _ | refine Keep.set ?_ (by rfl) | refine Keep.tick ?_)), ?_⟩
      simp only [go_sem, h14, List.drop_zero]
      and_intros; all_goals try (first | rfl | omega | assumption | ((repeat (first | exact Fr.rfl' _ _ | assumption | refine Fr.updk ?_ (by omega) _)); done))
    · rintro τ ⟨n, hk, t14, t19, hn, hlex⟩
      obtain ⟨u5, u6, u7, u8, u9, u10, u11, u12, u13, ux, uy, uT, ur, ui⟩ := hk.cx hc
      rcases Nat.lt_or_ge n la[i].length with hlt | hge
      · have hlt' : n < lb[j].length := by omega
        have hlz : (n : Int) < (la[i].length : Int) := by omega
        obtain ⟨p, ep, hp⟩ := hsa n hlt
        obtain ⟨q, eq', hq⟩ := hta n hlt'
        have k1 : (tabA nm ps.length pt.length (i + 1)).getD p .junk = .arr (nm p) 0 pt.length := tabA_at (by omega) hi
        have k2 : (rowA ps pt p pt.length).getD q .junk = bA (gtN ps pt (p, q)) := rowA_at (by omega) (Nat.le_refl _)
        have k3 := ur p hp
        have hp' : p < ps.length := by omega
        have hq' : q < pt.length := by omega
        have f1 : (la[i].map iD).getD n default = iD p := by rw [nth_map iD hlt, ep]
        have f2 : (lb[j].map iD).getD n default = iD q := by rw [nth_map iD hlt', eq']
        have f3 : (ps.map tmDV).getD p default = tmDV ps[p] := nth_map tmDV hp' _
        have f4 : (pt.map tmDV).getD q default = tmDV pt[q] := nth_map tmDV hq' _
        cases hs : same ps[p] pt[q] with
        | true =>
          repeat' (first | refine awp_seq_k fun K hK => ?_ | ((first | refine awp_region_k (by kernel_rfl) fun R hR => ?_ | refine awp_draw mixed (by kernel_rfl) (by kernel_rfl) fun R hR => ?_); simp only [go_sem, t14, t19, u5, u6, u7, u8, u10, u11, ea, eb, hlz, f1, f2, f3, f4, hs, Int.toNat_natCast]) | ((first | (refine hR _ ?_; clear hR R) | refine awp_skip ?_ | refine awp_exit ?_ | refine awp_ret ?_); try simp only [thenA, inBlockA, reduceIte, reduceCtorEq, Nat.reduceEqDiff, if_false, if_true]) | ((first | refine hK _ ?_ | (clear hK K; first | refine hK _ ?_ | (clear hK K; first | refine hK _ ?_ | (clear hK K; first | refine hK _ ?_ | (clear hK K; refine hK _ ?_))))); clear hK K) | refine awp_true rfl rfl ?_ | refine awp_false rfl rfl ?_ | refine awp_block ?_ | ((first | refine CallK.pure (enter47) (sameR_tri ps[p] pt[q]) ?_ ?_ | refine CallD.pure (enter47) (sameR_tri ps[p] pt[q]) ?_ ?_); (focus first | ((repeat (first | exact trivial | refine ⟨(by first | exact Or.inl rfl | exact Or.inr rfl), ?_⟩)); done) | (simp only [coL, AV.dat, true_or, or_true, AV.d.injEq, go_sem]; done)); simp only [go_sem, t14, t19, u5, u6, u7, u8, u10, u11, ea, eb, hlz, f1, f2, f3, f4, hs, Int.toNat_natCast]) | refine And.intro (by first | ((repeat' first | omega | exact trivial | rfl | assumption | (intro a e; subst e; rfl) | exact map_sz fun a => (by simp only [go_sem]) | refine And.intro ?_ ?_); done) | fail) ?_ | fail)
          refine ⟨⟨n + 1, (by repeat (first | exact Keep.of (by assumption) | exact Keep.rfl' _ _ | refine Keep.set ?_ (by rfl) | refine Keep.tick ?_)), ?_⟩, ?_⟩
          · simp only [go_sem, t14, t19]
            and_intros; all_goals try (first | rfl | omega | assumption | ((repeat (first | exact Fr.rfl' _ _ | assumption | refine Fr.updk ?_ (by omega) _)); done))
            rw [lexi_same hlt hlt' (by rw [ep, eq', sameN_at hp' hq']; exact hs)]; exact hlex
          · simp only [go_sem, t14, t19]; omega
        | false =>
          have hyes : (yes || gtN ps pt (p, q)) = gtN ps pt (i, j) := by
            rw [← hv, ← hlex, lexi_not hlt hlt' (by rw [ep, eq', sameN_at hp' hq']; exact hs), ep, eq']
          cases yes with
          | true =>
            repeat' (first | refine fin _ ?_ ?_ rfl | refine awp_seq_k fun K hK => ?_ | ((first | refine awp_region_k (by kernel_rfl) fun R hR => ?_ | refine awp_draw mixed (by kernel_rfl) (by kernel_rfl) fun R hR => ?_); simp only [go_sem, t14, t19, u5, u6, u7, u8, u9, u10, u11, ea, eb, hlz, f1, f2, f3, f4, hs, uT, k1, k2, k3, Int.toNat_natCast, Nat.mul_one, tabA_len, rowA_len]) | ((first | (refine hR _ ?_; clear hR R) | refine awp_skip ?_ | refine awp_exit ?_ | refine awp_ret ?_); try simp only [thenA, inBlockA, reduceIte, reduceCtorEq, Nat.reduceEqDiff, if_false, if_true]) | ((first | refine hK _ ?_ | (clear hK K; first | refine hK _ ?_ | (clear hK K; first | refine hK _ ?_ | (clear hK K; first | refine hK _ ?_ | (clear hK K; refine hK _ ?_))))); clear hK K) | refine awp_true rfl rfl ?_ | refine awp_false rfl rfl ?_ | refine awp_block ?_ | ((first | refine CallK.pure (enter47) (sameR_tri ps[p] pt[q]) ?_ ?_ | refine CallD.pure (enter47) (sameR_tri ps[p] pt[q]) ?_ ?_); (focus first | ((repeat (first | exact trivial | refine ⟨(by first | exact Or.inl rfl | exact Or.inr rfl), ?_⟩)); done) | (simp only [coL, AV.dat, true_or, or_true, AV.d.injEq, go_sem]; done)); simp only [go_sem, t14, t19, u5, u6, u7, u8, u9, u10, u11, ea, eb, hlz, f1, f2, f3, f4, hs, uT, k1, k2, k3, Int.toNat_natCast, Nat.mul_one, tabA_len, rowA_len]) | refine And.intro (by first | ((repeat' first | omega | exact trivial | rfl | assumption | (intro a e; subst e; rfl) | exact map_sz fun a => (by simp only [go_sem]) | refine And.intro ?_ ?_); done) | fail) ?_ | fail)
            · exact (by repeat (first | exact Keep.of (by assumption) | exact Keep.rfl' _ _ | refine Keep.set ?_ (by rfl) | refine Keep.tick ?_))
            · simp only [go_sem, ← hyes, Bool.true_or]
          | false =>
            repeat' (first | refine fin _ ?_ ?_ rfl | refine awp_seq_k fun K hK => ?_ | ((first | refine awp_region_k (by kernel_rfl) fun R hR => ?_ | refine awp_draw mixed (by kernel_rfl) (by kernel_rfl) fun R hR => ?_); simp only [go_sem, t14, t19, u5, u6, u7, u8, u9, u10, u11, ea, eb, hlz, f1, f2, f3, f4, hs, uT, k1, k2, k3, Int.toNat_natCast, Nat.mul_one, tabA_len, rowA_len]) | ((first | (refine hR _ ?_; clear hR R) | refine awp_skip ?_ | refine awp_exit ?_ | refine awp_ret ?_); try simp only [thenA, inBlockA, reduceIte, reduceCtorEq, Nat.reduceEqDiff, if_false, if_true]) | ((first | refine hK _ ?_ | (clear hK K; first | refine hK _ ?_ | (clear hK K; first | refine hK _ ?_ | (clear hK K; first | refine hK _ ?_ | (clear hK K; refine hK _ ?_))))); clear hK K) | refine awp_true rfl rfl ?_ | refine awp_false rfl rfl ?_ | refine awp_block ?_ | ((first | refine CallK.pure (enter47) (sameR_tri ps[p] pt[q]) ?_ ?_ | refine CallD.pure (enter47) (sameR_tri ps[p] pt[q]) ?_ ?_); (focus first | ((repeat (first | exact trivial | refine ⟨(by first | exact Or.inl rfl | exact Or.inr rfl), ?_⟩)); done) | (simp only [coL, AV.dat, true_or, or_true, AV.d.injEq, go_sem]; done)); simp only [go_sem, t14, t19, u5, u6, u7, u8, u9, u10, u11, ea, eb, hlz, f1, f2, f3, f4, hs, uT, k1, k2, k3, Int.toNat_natCast, Nat.mul_one, tabA_len, rowA_len]) | refine And.intro (by first | ((repeat' first | omega | exact trivial | rfl | assumption | (intro a e; subst e; rfl) | exact map_sz fun a => (by simp only [go_sem]) | refine And.intro ?_ ?_); done) | fail) ?_ | fail)
            · exact (by repeat (first | exact Keep.of (by assumption) | exact Keep.rfl' _ _ | refine Keep.set ?_ (by rfl) | refine Keep.tick ?_))
            · simp only [go_sem, ← hyes, Bool.false_or]
      · have hge' : n = la[i].length := by omega
        have hlz : ¬ ((n : Int) < (la[i].length : Int)) := by omega
        have hyes : yes = gtN ps pt (i, j) := by
          rw [← hv, ← hlex, hge', List.drop_length]
          cases (lb[j].drop la[i].length) <;> simp [lexi]
        cases yes with
        | true =>
          repeat' (first | refine fin _ ?_ ?_ rfl | refine awp_seq_k fun K hK => ?_ | ((first | refine awp_region_k (by kernel_rfl) fun R hR => ?_ | refine awp_draw mixed (by kernel_rfl) (by kernel_rfl) fun R hR => ?_); simp only [go_sem, t14, t19, u5, u6, u7, u8, u9, u10, u11, ea, eb, hlz, Int.toNat_natCast, Nat.mul_one]) | ((first | (refine hR _ ?_; clear hR R) | refine awp_skip ?_ | refine awp_exit ?_ | refine awp_ret ?_); try simp only [thenA, inBlockA, reduceIte, reduceCtorEq, Nat.reduceEqDiff, if_false, if_true]) | ((first | refine hK _ ?_ | (clear hK K; first | refine hK _ ?_ | (clear hK K; first | refine hK _ ?_ | (clear hK K; first | refine hK _ ?_ | (clear hK K; refine hK _ ?_))))); clear hK K) | refine awp_true rfl rfl ?_ | refine awp_false rfl rfl ?_ | refine awp_block ?_ | refine And.intro (by first | ((repeat' first | omega | exact trivial | rfl | assumption | (intro a e; subst e; rfl) | exact map_sz fun a => (by simp only [go_sem]) | refine And.intro ?_ ?_); done) | fail) ?_ | fail)
          · exact (by repeat (first | exact Keep.of (by assumption) | exact Keep.rfl' _ _ | refine Keep.set ?_ (by rfl) | refine Keep.tick ?_))
          · simp only [go_sem, ← hyes]
        | false =>
          repeat' (first | refine fin _ ?_ ?_ rfl | refine awp_seq_k fun K hK => ?_ | ((first | refine awp_region_k (by kernel_rfl) fun R hR => ?_ | refine awp_draw mixed (by kernel_rfl) (by kernel_rfl) fun R hR => ?_); simp only [go_sem, t14, t19, u5, u6, u7, u8, u9, u10, u11, ea, eb, hlz, Int.toNat_natCast, Nat.mul_one]) | ((first | (refine hR _ ?_; clear hR R) | refine awp_skip ?_ | refine awp_exit ?_ | refine awp_ret ?_); try simp only [thenA, inBlockA, reduceIte, reduceCtorEq, Nat.reduceEqDiff, if_false, if_true]) | ((first | refine hK _ ?_ | (clear hK K; first | refine hK _ ?_ | (clear hK K; first | refine hK _ ?_ | (clear hK K; first | refine hK _ ?_ | (clear hK K; refine hK _ ?_))))); clear hK K) | refine awp_true rfl rfl ?_ | refine awp_false rfl rfl ?_ | refine awp_block ?_ | refine And.intro (by first | ((repeat' first | omega | exact trivial | rfl | assumption | (intro a e; subst e; rfl) | exact map_sz fun a => (by simp only [go_sem]) | refine And.intro ?_ ?_); done) | fail) ?_ | fail)
          · exact (by repeat (first | exact Keep.of (by assumption) | exact Keep.rfl' _ _ | refine Keep.set ?_ (by rfl) | refine Keep.tick ?_))
          · simp only [go_sem, ← hyes]
  · rw [if_neg hcond] at hv
    cases all with
    | true =>
      have ef : (ps[i].f == pt[j].f) = false := by simpa using hcond
      repeat' (first | refine fin _ ?_ ?_ rfl | refine awp_seq_k fun K hK => ?_ | ((first | refine awp_region_k (by kernel_rfl) fun R hR => ?_ | refine awp_draw mixed (by kernel_rfl) (by kernel_rfl) fun R hR => ?_); simp only [go_sem, h17, s12, s13, hx, hy, ef]) | ((first | (refine hR _ ?_; clear hR R) | refine awp_skip ?_ | refine awp_exit ?_ | refine awp_ret ?_); try simp only [thenA, inBlockA, reduceIte, reduceCtorEq, Nat.reduceEqDiff, if_false, if_true]) | ((first | refine hK _ ?_ | (clear hK K; first | refine hK _ ?_ | (clear hK K; first | refine hK _ ?_ | (clear hK K; first | refine hK _ ?_ | (clear hK K; refine hK _ ?_))))); clear hK K) | refine awp_true rfl rfl ?_ | refine awp_false rfl rfl ?_ | refine awp_block ?_ | refine And.intro (by first | ((repeat' first | omega | exact trivial | rfl | assumption | (intro a e; subst e; rfl) | exact map_sz fun a => (by simp only [go_sem]) | refine And.intro ?_ ?_); done) | fail) ?_ | fail)
      · exact (by repeat (first | exact Keep.of (by assumption) | exact Keep.rfl' _ _ | refine Keep.set ?_ (by rfl) | refine Keep.tick ?_))
      · simp only [go_sem, h14, hv]
    | false =>
      repeat' (first | refine fin _ ?_ ?_ rfl | refine awp_seq_k fun K hK => ?_ | ((first | refine awp_region_k (by kernel_rfl) fun R hR => ?_ | refine awp_draw mixed (by kernel_rfl) (by kernel_rfl) fun R hR => ?_); simp only [go_sem, h17, s12, s13, hx, hy]) | ((first | (refine hR _ ?_; clear hR R) | refine awp_skip ?_ | refine awp_exit ?_ | refine awp_ret ?_); try simp only [thenA, inBlockA, reduceIte, reduceCtorEq, Nat.reduceEqDiff, if_false, if_true]) | ((first | refine hK _ ?_ | (clear hK K; first | refine hK _ ?_ | (clear hK K; first | refine hK _ ?_ | (clear hK K; first | refine hK _ ?_ | (clear hK K; refine hK _ ?_))))); clear hK K) | refine awp_true rfl rfl ?_ | refine awp_false rfl rfl ?_ | refine awp_block ?_ | refine And.intro (by first | ((repeat' first | omega | exact trivial | rfl | assumption | (intro a e; subst e; rfl) | exact map_sz fun a => (by simp only [go_sem]) | refine And.intro ?_ ?_); done) | fail) ?_ | fail)
      · exact (by repeat (first | exact Keep.of (by assumption) | exact Keep.rfl' _ _ | refine Keep.set ?_ (by rfl) | refine Keep.tick ?_))
      · simp only [go_sem, h14, hv]
end
end Go.Proofs.Ytmeekpinkfpnhaa
namespace Go.Proofs.Ytmeekpinkfpnhaa
open Go.RowKit
section
variable {ps pt : List Tm} {la lb : List (List Int)} {T x y : Nm} {nm : Nat → Nm} {i j : Nat} {w0 : World} {Q : Exit → St → Prop}
variable (hi : i < ps.length) (hj : j < pt.length) (hi' : i < la.length) (hj' : j < lb.length) (hT : T ≠ nm i) (hnm : ∀ a, a < i → nm a ≠ nm i)
variable (hsa : ∀ (n : Nat) (h : n < la[i].length), ∃ a : Nat, la[i][n] = (a : Int) ∧ a < i) (hta : ∀ (n : Nat) (h : n < lb[j].length), ∃ a : Nat, lb[j][n] = (a : Int) ∧ a < j)
variable (hla : la[i].length ≤ 4000000) (hlb : lb[j].length ≤ 4000000)
include hi hj hi' hj' hT hnm hsa hta hla hlb
theorem gre_pick (σ : St) (hc : GCx ps pt la lb T x y nm i j σ) (yes all : Bool) (h14 : σ.t 14 = bA yes) (h17 : σ.t 17 = bA all) (hall : all = true → ps[i].f = pt[j].f → la[i].length = lb[j].length)
    (hv : (if (all && ps[i].f == pt[j].f) = true then (if (all && decide (pt[j].f < ps[i].f)) = true then true else yes) || lexi (sameN ps pt) (gtN ps pt) la[i] lb[j] else if (all && decide (pt[j].f < ps[i].f)) = true then true else yes) = gtN ps pt (i, j))
    (hQ : ∀ σ', GPost ps pt nm i j σ σ' → Q .normal σ') {N : Nat} {c : Code} (hN : (Try.f16).ntmps = N) (hc : bodyAt (Try.f16) [true,true,true,true,false,true,false,false,true,false,false,true,true,false,false,true,false,false,true,true,true,true,true] = some c) : awp Try.prog w0 N c Q σ := by
  have fin : ∀ σ1, GKeep σ σ1 → ∀ y1, σ1.t 14 = bA y1 → (if (all && decide (pt[j].f < ps[i].f)) = true then true else yes) = y1 → σ1.t 17 = bA all → ∀ {c' : Code}, bodyAt (Try.f16) [true,true,true,true,false,true,false,false,true,false,false,true,true,false,false,true,false,false,true,true,true,true,true,true] = some c' → awp Try.prog w0 N c' Q σ1 := by
    intro σ1 g1 y1 g2 g3 g4 c' hc'
    exact gre_lex hi hj hi' hj' hT hnm hsa hta hla hlb σ1 (g1.cx ‹_›) _ all g2 g4 hall (by rw [← g3]; exact hv) (fun σ' hp => hQ σ' (g1.post hp)) hN hc'
  obtain rfl := (Try.ntmps16).symm.trans hN; obtain rfl := Option.some.inj (show some _ = some c from hc); clear hN hc
  obtain ⟨s5, s6, s7, s8, s9, s10, s11, s12, s13, hx, hy, hTT, hr, hii⟩ := id hc
  have hx := hx hi
  have hy := hy hj
  cases all with
  | true =>
    by_cases hf : pt[j].f < ps[i].f
    · repeat' (first | refine fin _ ?_ true ?_ ?_ ?_ rfl | refine awp_seq_k fun K hK => ?_ | ((first | refine awp_region_k (by kernel_rfl) fun R hR => ?_ | refine awp_draw mixed (by kernel_rfl) (by kernel_rfl) fun R hR => ?_); simp only [go_sem, h17, s12, s13, hx, hy, hf, gt_iff_lt]) | ((first | (refine hR _ ?_; clear hR R) | refine awp_skip ?_ | refine awp_exit ?_ | refine awp_ret ?_); try simp only [thenA, inBlockA, reduceIte, reduceCtorEq, Nat.reduceEqDiff, if_false, if_true]) | ((first | refine hK _ ?_ | (clear hK K; first | refine hK _ ?_ | (clear hK K; first | refine hK _ ?_ | (clear hK K; first | refine hK _ ?_ | (clear hK K; refine hK _ ?_))))); clear hK K) | refine awp_true rfl rfl ?_ | refine awp_false rfl rfl ?_ | refine awp_block ?_ | refine And.intro (by first | ((repeat' first | omega | exact trivial | rfl | assumption | (intro a e; subst e; rfl) | exact map_sz fun a => (by simp only [go_sem]) | refine And.intro ?_ ?_); done) | fail) ?_ | fail)
      · exact (by repeat (first | exact Keep.of (by assumption) | exact Keep.rfl' _ _ | refine Keep.set ?_ (by rfl) | refine Keep.tick ?_))
      · simp only [go_sem]
      · simp only [go_sem, hf]
      · simp only [go_sem, h17]
    · repeat' (first | refine fin _ ?_ yes ?_ ?_ ?_ rfl | refine awp_seq_k fun K hK => ?_ | ((first | refine awp_region_k (by kernel_rfl) fun R hR => ?_ | refine awp_draw mixed (by kernel_rfl) (by kernel_rfl) fun R hR => ?_); simp only [go_sem, h17, s12, s13, hx, hy, hf, gt_iff_lt]) | ((first | (refine hR _ ?_; clear hR R) | refine awp_skip ?_ | refine awp_exit ?_ | refine awp_ret ?_); try simp only [thenA, inBlockA, reduceIte, reduceCtorEq, Nat.reduceEqDiff, if_false, if_true]) | ((first | refine hK _ ?_ | (clear hK K; first | refine hK _ ?_ | (clear hK K; first | refine hK _ ?_ | (clear hK K; first | refine hK _ ?_ | (clear hK K; refine hK _ ?_))))); clear hK K) | refine awp_true rfl rfl ?_ | refine awp_false rfl rfl ?_ | refine awp_block ?_ | refine And.intro (by first | ((repeat' first | omega | exact trivial | rfl | assumption | (intro a e; subst e; rfl) | exact map_sz fun a => (by simp only [go_sem]) | refine And.intro ?_ ?_); done) | fail) ?_ | fail)
      · exact (by repeat (first | exact Keep.of (by assumption) | exact Keep.rfl' _ _ | refine Keep.set ?_ (by rfl) | refine Keep.tick ?_))
      · simp only [go_sem, h14]
      · simp only [go_sem, hf]
      · simp only [go_sem, h17]
  | false =>
    repeat' (first | refine fin _ ?_ yes ?_ ?_ ?_ rfl | refine awp_seq_k fun K hK => ?_ | ((first | refine awp_region_k (by kernel_rfl) fun R hR => ?_ | refine awp_draw mixed (by kernel_rfl) (by kernel_rfl) fun R hR => ?_); simp only [go_sem, h17, s12, s13, hx, hy]) | ((first | (refine hR _ ?_; clear hR R) | refine awp_skip ?_ | refine awp_exit ?_ | refine awp_ret ?_); try simp only [thenA, inBlockA, reduceIte, reduceCtorEq, Nat.reduceEqDiff, if_false, if_true]) | ((first | refine hK _ ?_ | (clear hK K; first | refine hK _ ?_ | (clear hK K; first | refine hK _ ?_ | (clear hK K; first | refine hK _ ?_ | (clear hK K; refine hK _ ?_))))); clear hK K) | refine awp_true rfl rfl ?_ | refine awp_false rfl rfl ?_ | refine awp_block ?_ | refine And.intro (by first | ((repeat' first | omega | exact trivial | rfl | assumption | (intro a e; subst e; rfl) | exact map_sz fun a => (by simp only [go_sem]) | refine And.intro ?_ ?_); done) | fail) ?_ | fail)
    · exact (by repeat (first | exact Keep.of (by assumption) | exact Keep.rfl' _ _ | refine Keep.set ?_ (by rfl) | refine Keep.tick ?_))
    · simp only [go_sem, h14]
    · simp only [go_sem]
    · simp only [go_sem, h17]
theorem gre_all (σ : St) (hc : GCx ps pt la lb T x y nm i j σ) (yes base : Bool) (h14 : σ.t 14 = bA yes) (h17 : σ.t 17 = bA base) (hall : base = true → ps[i].f = pt[j].f → la[i].length = lb[j].length)
    (hv : ∀ all, all = (base && lb[j].all fun b => gtN ps pt (i, b)) → (if (all && ps[i].f == pt[j].f) = true then (if (all && decide (pt[j].f < ps[i].f)) = true then true else yes) || lexi (sameN ps pt) (gtN ps pt) la[i] lb[j] else if (all && decide (pt[j].f < ps[i].f)) = true then true else yes) = gtN ps pt (i, j))
    (hQ : ∀ σ', GPost ps pt nm i j σ σ' → Q .normal σ') {N : Nat} {c : Code} (hN : (Try.f16).ntmps = N) (hc : bodyAt (Try.f16) [true,true,true,true,false,true,false,false,true,false,false,true,true,false,false,true,false,false,true,true,true,true] = some c) : awp Try.prog w0 N c Q σ := by
  have fin : ∀ σ1, GKeep σ σ1 → ∀ all, all = (base && lb[j].all fun b => gtN ps pt (i, b)) → σ1.t 14 = bA yes → σ1.t 17 = bA all → ∀ {c' : Code}, bodyAt (Try.f16) [true,true,true,true,false,true,false,false,true,false,false,true,true,false,false,true,false,false,true,true,true,true,true] = some c' → awp Try.prog w0 N c' Q σ1 := by
    intro σ1 g1 all g2 g3 g4 c' hc'
    refine gre_pick hi hj hi' hj' hT hnm hsa hta hla hlb σ1 (g1.cx ‹_›) _ all g3 g4 (fun h => hall ?_) (hv all g2) (fun σ' hp => hQ σ' (g1.post hp)) hN hc'
    rw [g2, Bool.and_eq_true] at h; exact h.1
  obtain rfl := (Try.ntmps16).symm.trans hN; obtain rfl := Option.some.inj (show some _ = some c from hc); clear hN hc
  have eb : (lb.map gI).getD j default = gI lb[j] := nth_map gI hj' _
  repeat' (first | refine awp_seq_k fun K hK => ?_ | ((first | refine awp_region_k (by kernel_rfl) fun R hR => ?_ | refine awp_draw mixed (by kernel_rfl) (by kernel_rfl) fun R hR => ?_); simp only [go_sem]) | ((first | (refine hR _ ?_; clear hR R) | refine awp_skip ?_ | refine awp_exit ?_ | refine awp_ret ?_); try simp only [thenA, inBlockA, reduceIte, reduceCtorEq, Nat.reduceEqDiff, if_false, if_true]) | ((first | refine hK _ ?_ | (clear hK K; first | refine hK _ ?_ | (clear hK K; first | refine hK _ ?_ | (clear hK K; first | refine hK _ ?_ | (clear hK K; refine hK _ ?_))))); clear hK K) | refine awp_true rfl rfl ?_ | refine awp_false rfl rfl ?_ | refine awp_block ?_ | refine And.intro (by first | ((repeat' first | omega | exact trivial | rfl | assumption | (intro a e; subst e; rfl) | exact map_sz fun a => (by simp only [go_sem]) | refine And.intro ?_ ?_); done) | fail) ?_ | fail)
  refine awp_loop (fun τ => ∃ (n : Nat) (cur : Bool), GKeep σ τ ∧ τ.t 14 = bA yes ∧ τ.t 17 = bA cur ∧ τ.t 18 = iA n ∧ n ≤ lb[j].length ∧ (cur && (lb[j].drop n).all fun b => gtN ps pt (i, b)) = (base && lb[j].all fun b => gtN ps pt (i, b))) (fun τ => lb[j].length - (intOf' (τ.t 18)).toNat) ?_ ?_
  · refine ⟨0, base, (by repeat (first | exact Keep.of (by assumption) | exact Keep.rfl' _ _ | refine Keep.set ?_ (by rfl) | refine Keep.tick ?_)), ?_⟩
    simp only [go_sem, h14, h17, List.drop_zero]
    and_intros; all_goals try (first | rfl | omega | assumption | ((repeat (first | exact Fr.rfl' _ _ | assumption | refine Fr.updk ?_ (by omega) _)); done))
  · rintro τ ⟨n, cur, hk, t14, t17, t18, hn, hcur⟩
    obtain ⟨u5, u6, u7, u8, u9, u10, u11, u12, u13, ux, uy, uT, ur, ui⟩ := hk.cx hc
    rcases Nat.lt_or_ge n lb[j].length with hlt | hge
    · have hlz : (n : Int) < (lb[j].length : Int) := by omega
      obtain ⟨q, eq', hq⟩ := hta n hlt
      have k1 : (tabA nm ps.length pt.length (i + 1)).getD i .junk = .arr (nm i) 0 pt.length := tabA_at (by omega) hi
      have k2 : (rowA ps pt i j).getD q .junk = bA (gtN ps pt (i, q)) := rowA_at hq (by omega)
      have f2 : (lb[j].map iD).getD n default = iD q := by rw [nth_map iD hlt, eq']
      have hd : (lb[j].drop n).all (fun b => gtN ps pt (i, b)) = (gtN ps pt (i, q) && (lb[j].drop (n + 1)).all fun b => gtN ps pt (i, b)) := by
        rw [List.drop_eq_getElem_cons hlt, List.all_cons, eq']
      rw [hd, ← Bool.and_assoc] at hcur
      cases cur with
      | true =>
        repeat' (first | refine awp_seq_k fun K hK => ?_ | ((first | refine awp_region_k (by kernel_rfl) fun R hR => ?_ | refine awp_draw mixed (by kernel_rfl) (by kernel_rfl) fun R hR => ?_); simp only [go_sem, t17, t18, u8, u9, u10, u11, eb, hlz, uT, ui, k1, k2, f2, Int.toNat_natCast, Nat.mul_one, tabA_len, rowA_len]) | ((first | (refine hR _ ?_; clear hR R) | refine awp_skip ?_ | refine awp_exit ?_ | refine awp_ret ?_); try simp only [thenA, inBlockA, reduceIte, reduceCtorEq, Nat.reduceEqDiff, if_false, if_true]) | ((first | refine hK _ ?_ | (clear hK K; first | refine hK _ ?_ | (clear hK K; first | refine hK _ ?_ | (clear hK K; first | refine hK _ ?_ | (clear hK K; refine hK _ ?_))))); clear hK K) | refine awp_true rfl rfl ?_ | refine awp_false rfl rfl ?_ | refine awp_block ?_ | refine And.intro (by first | ((repeat' first | omega | exact trivial | rfl | assumption | (intro a e; subst e; rfl) | exact map_sz fun a => (by simp only [go_sem]) | refine And.intro ?_ ?_); done) | fail) ?_ | fail)
        refine ⟨⟨n + 1, gtN ps pt (i, q), (by repeat (first | exact Keep.of (by assumption) | exact Keep.rfl' _ _ | refine Keep.set ?_ (by rfl) | refine Keep.tick ?_)), ?_⟩, ?_⟩
        · simp only [go_sem, t14, t18]
          and_intros; all_goals try (first | rfl | omega | assumption | ((repeat (first | exact Fr.rfl' _ _ | assumption | refine Fr.updk ?_ (by omega) _)); done))
        · simp only [go_sem, t18]; omega
      | false =>
        repeat' (first | refine awp_seq_k fun K hK => ?_ | ((first | refine awp_region_k (by kernel_rfl) fun R hR => ?_ | refine awp_draw mixed (by kernel_rfl) (by kernel_rfl) fun R hR => ?_); simp only [go_sem, t17, t18, u8, u9, u10, u11, eb, hlz, Int.toNat_natCast]) | ((first | (refine hR _ ?_; clear hR R) | refine awp_skip ?_ | refine awp_exit ?_ | refine awp_ret ?_); try simp only [thenA, inBlockA, reduceIte, reduceCtorEq, Nat.reduceEqDiff, if_false, if_true]) | ((first | refine hK _ ?_ | (clear hK K; first | refine hK _ ?_ | (clear hK K; first | refine hK _ ?_ | (clear hK K; first | refine hK _ ?_ | (clear hK K; refine hK _ ?_))))); clear hK K) | refine awp_true rfl rfl ?_ | refine awp_false rfl rfl ?_ | refine awp_block ?_ | refine And.intro (by first | ((repeat' first | omega | exact trivial | rfl | assumption | (intro a e; subst e; rfl) | exact map_sz fun a => (by simp only [go_sem]) | refine And.intro ?_ ?_); done) | fail) ?_ | fail)
        refine ⟨⟨n + 1, false, (by repeat (first | exact Keep.of (by assumption) | exact Keep.rfl' _ _ | refine Keep.set ?_ (by rfl) | refine Keep.tick ?_)), ?_⟩, ?_⟩
        · simp only [go_sem, t14, t18]
          and_intros; all_goals try (first | rfl | omega | assumption | ((repeat (first | exact Fr.rfl' _ _ | assumption | refine Fr.updk ?_ (by omega) _)); done))
        · simp only [go_sem, t18]; omega
    · have hge' : n = lb[j].length := by omega
      have hlz : ¬ ((n : Int) < (lb[j].length : Int)) := by omega
      repeat' (first | refine fin _ ?_ cur ?_ ?_ ?_ rfl | refine awp_seq_k fun K hK => ?_ | ((first | refine awp_region_k (by kernel_rfl) fun R hR => ?_ | refine awp_draw mixed (by kernel_rfl) (by kernel_rfl) fun R hR => ?_); simp only [go_sem, t17, t18, u8, u9, u10, u11, eb, hlz, Int.toNat_natCast]) | ((first | (refine hR _ ?_; clear hR R) | refine awp_skip ?_ | refine awp_exit ?_ | refine awp_ret ?_); try simp only [thenA, inBlockA, reduceIte, reduceCtorEq, Nat.reduceEqDiff, if_false, if_true]) | ((first | refine hK _ ?_ | (clear hK K; first | refine hK _ ?_ | (clear hK K; first | refine hK _ ?_ | (clear hK K; first | refine hK _ ?_ | (clear hK K; refine hK _ ?_))))); clear hK K) | refine awp_true rfl rfl ?_ | refine awp_false rfl rfl ?_ | refine awp_block ?_ | refine And.intro (by first | ((repeat' first | omega | exact trivial | rfl | assumption | (intro a e; subst e; rfl) | exact map_sz fun a => (by simp only [go_sem]) | refine And.intro ?_ ?_); done) | fail) ?_ | fail)
      · exact (by repeat (first | exact Keep.of (by assumption) | exact Keep.rfl' _ _ | refine Keep.set ?_ (by rfl) | refine Keep.tick ?_))
      · rw [← hcur, hge', List.drop_length]; simp
      · simp only [go_sem, t14]
      · simp only [go_sem, t17]
end
end Go.Proofs.Ytmeekpinkfpnhaa
