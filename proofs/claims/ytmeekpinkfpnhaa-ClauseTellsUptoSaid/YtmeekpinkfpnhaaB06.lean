/- term.walk, term.Walk, with a function that changes objects; term.Stands. term.Stands. superposeref.PartsOf. Clauses: superposeref.Has, FirstVars, TermsOf, CheckClause, CheckClauses; clause.Terms, clause.Check, text.Right. -/
import Derived.Test.YtmeekpinkfpnhaaB05
set_option linter.unusedSimpArgs false
set_option linter.unusedSectionVars false
set_option linter.unusedVariables false
set_option linter.unnecessarySimpa false
set_option linter.all false
namespace Go.Proofs.Ytmeekpinkfpnhaa
open Go.RowKit
set_option linter.unusedSimpArgs false
set_option linter.unusedSectionVars false
attribute [local irreducible] CallK CallD

mutual
/-- A walk: what is done at each part; does it go on? -/
def walkS {S : Type} (step : Tm → S → Bool × S) : Tm → S → Bool × S
  | .mk v f us, s => if (step (.mk v f us) s).1 = true then walkL step us (step (.mk v f us) s).2 else (false, (step (.mk v f us) s).2)
def walkL {S : Type} (step : Tm → S → Bool × S) : List Tm → S → Bool × S
  | [], s => (true, s)
  | x :: xs, s => if (walkS step x s).1 = true then walkL step xs (walkS step x s).2 else (false, (walkS step x s).2)
end
theorem walkS_eq {S : Type} (step : Tm → S → Bool × S) (t : Tm) (s : S) : walkS step t s = if (step t s).1 = true then walkL step t.us (step t s).2 else (false, (step t s).2) := by cases t; rw [walkS]; rfl
theorem walkL_go {S : Type} {step : Tm → S → Bool × S} {us : List Tm} {i : Nat} (hi : i < us.length) {s : S} (h : (walkS step us[i] s).1 = true) : walkL step (us.drop i) s = walkL step (us.drop (i + 1)) (walkS step us[i] s).2 := by
  rw [List.drop_eq_getElem_cons hi, walkL, if_pos h]
theorem walkL_stop {S : Type} {step : Tm → S → Bool × S} {us : List Tm} {i : Nat} (hi : i < us.length) {s : S} (h : (walkS step us[i] s).1 = false) : walkL step (us.drop i) s = (false, (walkS step us[i] s).2) := by
  rw [List.drop_eq_getElem_cons hi, walkL, if_neg (by rw [h]; simp)]
mutual
theorem pre_len : ∀ t : Tm, (pre t).length = t.size
  | .mk v f us => by rw [pre, List.length_cons, preL_len us, Tm.size]; omega
theorem preL_len : ∀ us : List Tm, (preL us).length = Tm.size.sizes us
  | [] => rfl
  | x :: xs => by rw [preL, List.length_append, pre_len x, preL_len xs, Tm.size.sizes]
end
theorem preL_mem {us : List Tm} {u x : Tm} (hu : u ∈ us) (hx : x ∈ pre u) : x ∈ preL us := by
  induction us with
  | nil => cases hu
  | cons y ys ih =>
    rw [preL, List.mem_append]
    rcases List.mem_cons.1 hu with rfl | hu
    · exact .inl hx
    · exact .inr (ih hu)
theorem notN {k : Nat} {N : List Nm} {O : Nm → Ob} {h : Heap} (ha : Ag k N O h) {k' : Nat} (hk : k ≤ k') : ∀ j, ((k', j) ∈ N) = False := fun j => by
  apply eq_false; intro hm
  have := (ha.get _ hm).1
  simp only at this; omega
theorem notN' {k : Nat} {N : List Nm} {O : Nm → Ob} {h : Heap} (ha : Ag k N O h) {k' : Nat} (hk : k ≤ k') : ∀ j, (∀ x, x ∈ N → ¬ x = (k', j)) = True := fun j => by
  apply eq_true; intro x hx e
  have := (ha.get _ hx).1
  rw [e] at this; simp only at this; omega
/-- A name among these, or not: asked from the other side. -/
theorem farN {N : List Nm} (r w : List Nm) : Far r w N N = ((∀ x ∈ w, ¬ x ∈ N) ∧ ∀ x ∈ r, ¬ x ∈ N) := by
  apply propext
  unfold Far
  exact ⟨fun ⟨h1, h2⟩ => ⟨fun x hx => (h1 x hx).1, fun x hx hx' => h2 x hx' hx⟩, fun ⟨h1, h2⟩ => ⟨fun x hx => ⟨h1 x hx, h1 x hx⟩, fun x hx hx' => h2 x hx' hx⟩⟩

section
variable {S : Type} (O : S → Nm → Ob) (N : List Nm) (g : FuncId) (caps : List AV) (step : Tm → S → Bool × S) (I : Nat → S → Prop) (hN : ∀ s (k : Nat), (∀ n ∈ N, n.1 < k) → Cl k N (O s)) (hg : enterOk Try.prog g) (hne : N ≠ [])
/-- What is done at a part. -/
def DoOK (x : Tm) : Prop := ∀ (n : Nat) (s : S), I (n + 1) s → I n (step x s).2 ∧ ∀ pl : List Int, Tri Try.prog g ([.d (.sl (pl.map iD)), .d (tmDV x)] ++ caps) (stE N (O s) (O (step x s).2) (bA (step x s).1))
def WalkSpec (t : Tm) : Prop := (∀ x ∈ pre t, DoOK O N g caps step I x) → ∀ (n : Nat) (s : S), I (t.size + n) s → ((walkS step t s).1 = true → I n (walkS step t s).2) ∧
  ∀ pl : List Int, pl.length + t.size ≤ 4000000 → Tri Try.prog 136 [.d (tmDV t), .d (.sl (pl.map iD)), .fn (.func g) [] caps] (stE N (O s) (O (walkS step t s).2) (bA (walkS step t s).1))
include hN hg hne
set_option maxRecDepth 20000 in
theorem walk_step (t : Tm) (ih : ∀ u ∈ t.us, WalkSpec O N g caps step I u) : WalkSpec O N g caps step I t := by
  intro hdo n s hI
  have hsz := t.size_eq
  have hlen := t.len_lt
  have hd0 := hdo t (by rw [pre_eq]; simp)
  obtain ⟨hI1, hT1⟩ := hd0 (Tm.size.sizes t.us + n) s (by rw [hsz] at hI; rw [show Tm.size.sizes t.us + n + 1 = 1 + Tm.size.sizes t.us + n by omega]; exact hI)
  have hdoU : ∀ u ∈ t.us, ∀ x ∈ pre u, DoOK O N g caps step I x := fun u hu x hx => hdo x (by rw [pre_eq]; exact List.mem_cons_of_mem _ (preL_mem hu hx))
  refine ⟨?_, fun pl hpl => ?_⟩
  · intro hw
    rw [walkS_eq] at hw ⊢
    by_cases h1 : (step t s).1 = true
    · rw [if_pos h1] at hw ⊢
      clear hT1 hI h1 hd0 hdo
      generalize (step t s).2 = s1 at *
      have ih' : ∀ u ∈ t.us, ∀ (n : Nat) (s : S), I (u.size + n) s → (walkS step u s).1 = true → I n (walkS step u s).2 := fun u hu n s hs => ((ih u hu) (hdoU u hu) n s hs).1
      clear ih hdoU hsz hlen
      generalize t.us = us at *
      clear t
      induction us generalizing s1 with
      | nil => rw [walkL]; simpa [Tm.size.sizes] using hI1
      | cons x xs ihx =>
        rw [walkL] at hw ⊢
        by_cases h2 : (walkS step x s1).1 = true
        · rw [if_pos h2] at hw ⊢
          refine ihx _ ?_ hw (fun u hu => ih' u (List.mem_cons_of_mem _ hu))
          refine ih' x (by simp) _ s1 ?_ h2
          rw [Tm.size.sizes, Nat.add_assoc] at hI1; exact hI1
        · rw [if_neg h2] at hw; cases hw
    · rw [if_neg h1] at hw; cases hw
  · rw [walkS_eq]
    refine tri_enter_st Try.func136 rfl Try.ntmps136 (by simp only [List.length_cons, List.length_nil]; omega) fun w0 h0 k hag => ?_
    have hlt : ∀ n ∈ N, n.1 < k := fun n hn => (hag.get n hn).1
    have hNk := notN hag (Nat.le_refl k)
    have hNk1 := notN hag (k' := k + 1) (by omega)
    have hT := hT1 pl
    cases h1 : (step t s).1 with
    | false =>
      rw [h1] at hT
      have hcl := hN (step t s).2 k hlt
      simp only [Bool.false_eq_true, if_false]
      repeat' (first
        | refine awp_seq_k fun K hK => ?_
        | ((first | refine awp_region_k (by kernel_rfl) fun R hR => ?_ | refine awp_draw mixed (by kernel_rfl) (by kernel_rfl) fun R hR => ?_); simp only [go_sem, h1, hNk])
        | ((first | (refine hR _ ?_; clear hR R) | refine awp_skip ?_ | refine awp_exit ?_ | refine awp_ret ?_); try simp only [thenA, inBlockA, reduceIte, reduceCtorEq, Nat.reduceEqDiff, if_false, if_true])
        | ((first | refine hK _ ?_ | (clear hK K; first | refine hK _ ?_ | (clear hK K; first | refine hK _ ?_ | (clear hK K; first | refine hK _ ?_ | (clear hK K; refine hK _ ?_))))); clear hK K)
        | refine awp_true rfl rfl ?_
        | refine awp_false rfl rfl ?_
        | refine awp_block ?_
        | ((first | refine CallK.vchg rfl (hg) (hT) ?_ (by assumption) (by repeat (first | exact Fr.rfl' _ _ | assumption | refine Fr.updk ?_ (by omega) _)) ?_ | refine CallD.vchg rfl (hg) (hT) ?_ (by assumption) (by repeat (first | exact Fr.rfl' _ _ | assumption | refine Fr.updk ?_ (by omega) _)) (by assumption) ?_); (focus first | ((repeat (first | exact trivial | refine ⟨(by first | exact Or.inl rfl | exact Or.inr rfl), ?_⟩)); done) | (simp only [coL, AV.dat, true_or, or_true, AV.d.injEq, go_sem]; done)); simp only [go_sem, h1, hNk])
        | refine And.intro (by first | omega | exact trivial | rfl | assumption | (apply map_sz; intro a; simp only [go_sem]; done) | ((and_intros <;> first | omega | exact trivial | rfl | assumption | (apply map_sz; intro a; simp only [go_sem]; done) | fail); done) | fail) ?_
        | fail)
      refine ret_st (by simp only [Try.results136, resOkL, resOk, Try.ntmps136, List.toList_toArray]; first | decide | (simp only [go_sem]; done) | (simp only [go_sem]; and_intros <;> first | omega | rfl | decide)) ?_ (by repeat (first | assumption | exact Ag.stN (by assumption) _ _ | refine Ag.updk ?_ (by omega) _)) (by repeat (first | exact FrN.rfl' _ _ _ | assumption | refine FrN.updk ?_ (by omega) _ | refine FrN.stH ?_ _)) (by assumption)
      simp only [resA, resV, Try.results136, go_sem]
      all_goals try (first | exact .dat rfl | exact Co.t2 (.dat rfl) (.dat rfl) | exact Co.t3 (.dat rfl) (.dat rfl) (.dat rfl))
    | true =>
      rw [h1] at hT
      simp only [if_true]
      repeat' (first
        | refine awp_seq_k fun K hK => ?_
        | ((first | refine awp_region_k (by kernel_rfl) fun R hR => ?_ | refine awp_draw mixed (by kernel_rfl) (by kernel_rfl) fun R hR => ?_); simp only [go_sem, h1, hNk, hNk1])
        | ((first | (refine hR _ ?_; clear hR R) | refine awp_skip ?_ | refine awp_exit ?_ | refine awp_ret ?_); try simp only [thenA, inBlockA, reduceIte, reduceCtorEq, Nat.reduceEqDiff, if_false, if_true])
        | ((first | refine hK _ ?_ | (clear hK K; first | refine hK _ ?_ | (clear hK K; first | refine hK _ ?_ | (clear hK K; first | refine hK _ ?_ | (clear hK K; refine hK _ ?_))))); clear hK K)
        | refine awp_true rfl rfl ?_
        | refine awp_false rfl rfl ?_
        | refine awp_block ?_
        | ((first | refine CallK.vchg rfl (hg) (hT) ?_ (by assumption) (by repeat (first | exact Fr.rfl' _ _ | assumption | refine Fr.updk ?_ (by omega) _)) ?_ | refine CallD.vchg rfl (hg) (hT) ?_ (by assumption) (by repeat (first | exact Fr.rfl' _ _ | assumption | refine Fr.updk ?_ (by omega) _)) (by assumption) ?_); (focus first | ((repeat (first | exact trivial | refine ⟨(by first | exact Or.inl rfl | exact Or.inr rfl), ?_⟩)); done) | (simp only [coL, AV.dat, true_or, or_true, AV.d.injEq, go_sem]; done)); simp only [go_sem, h1, hNk, hNk1])
        | refine And.intro (by first | omega | exact trivial | rfl | assumption | (apply map_sz; intro a; simp only [go_sem]; done) | ((and_intros <;> first | omega | exact trivial | rfl | assumption | (apply map_sz; intro a; simp only [go_sem]; done) | fail); done) | fail) ?_
        | fail)
      generalize hs1 : (step t s).2 = s1 at *
      refine awp_loop (fun σ => ∃ (i : Nat) (si : S), σ.t 1 = .d (.sl (pl.map iD)) ∧ σ.t 2 = .fn (.func g) [] caps ∧ σ.t 15 = .d (.sl (t.us.map tmDV)) ∧ σ.t 16 = iA t.us.length ∧ σ.t 17 = iA i ∧ Ag k N (O si) σ.h ∧ FrN k N h0 σ.h ∧ k < σ.k ∧ i ≤ t.us.length ∧ I (Tm.size.sizes (t.us.drop i) + n) si ∧ walkL step (t.us.drop i) si = walkL step t.us s1) (fun σ => t.us.length - (intOf' (σ.t 17)).toNat) ?_ ?_
      · refine ⟨0, s1, ?_⟩
        simp only [go_sem, List.drop_zero]
        and_intros; all_goals try (first | rfl | omega | assumption | ((repeat (first | exact Fr.rfl' _ _ | assumption | refine Fr.updk ?_ (by omega) _)); done))
        · exact (by repeat (first | assumption | exact Ag.stN (by assumption) _ _ | refine Ag.updk ?_ (by omega) _))
        · exact (by repeat (first | exact FrN.rfl' _ _ _ | assumption | refine FrN.updk ?_ (by omega) _ | refine FrN.stH ?_ _))
      · rintro σ ⟨i, si, s1', s2, s15, s16, s17, hA, hF, hk, hi, hIi, hw⟩
        rcases Nat.lt_or_ge i t.us.length with hi' | hge
        · have hz : (i : Int) < (t.us.length : Int) := by omega
          have e1 : (t.us.map tmDV).getD i default = tmDV t.us[i] := nth_map tmDV hi' _
          have hss := Tm.size_at hi'
          have hIi2 : I (t.us[i].size + (Tm.size.sizes (t.us.drop (i + 1)) + n)) si := by
            rw [List.drop_eq_getElem_cons hi', Tm.size.sizes, Nat.add_assoc] at hIi; exact hIi
          obtain ⟨g1, g2⟩ := ih _ (List.getElem_mem hi') (hdoU _ (List.getElem_mem hi')) _ si hIi2
          have g3 := g2 (pl ++ [(i : Int)]) (by rw [List.length_append, List.length_singleton]; omega)
          have epl : (pl ++ [(i : Int)]).map iD = pl.map iD ++ [iD i] := by simp
          have hN1 := notN hag (k' := σ.k) (by omega)
          have hN2 := notN hag (k' := σ.k + 1) (by omega)
          have hN3 := notN hag (k' := σ.k + 1 + 1) (by omega)
          have hN4 := notN' hag (k' := σ.k + 1) (by omega)
          have hN5 := notN' hag (k' := σ.k + 1 + 1) (by omega)
          have fN := fun r w => farN (N := N) r w
          refine awp_new fun hnew => ?_
          have hnn := hnew.at
          have hcl := hN (walkS step t.us[i] si).2 k hlt
          cases h2 : (walkS step t.us[i] si).1 with
          | true =>
            rw [h2, epl] at g3
            repeat' (first
              | refine awp_seq_k fun K hK => ?_
              | ((first | refine awp_region_k (by kernel_rfl) fun R hR => ?_ | refine awp_draw mixed (by kernel_rfl) (by kernel_rfl) fun R hR => ?_); simp only [go_sem, s1', s2, s15, s16, s17, hz, e1, epl, hN1, hN2, hN3, hN4, hN5, fN, hnn, Nat.reduceBEq, ite_self, implies_true, Int.toNat_natCast])
              | ((first | (refine hR _ ?_; clear hR R) | refine awp_skip ?_ | refine awp_exit ?_ | refine awp_ret ?_); try simp only [thenA, inBlockA, reduceIte, reduceCtorEq, Nat.reduceEqDiff, if_false, if_true])
              | ((first | refine hK _ ?_ | (clear hK K; first | refine hK _ ?_ | (clear hK K; first | refine hK _ ?_ | (clear hK K; first | refine hK _ ?_ | (clear hK K; refine hK _ ?_))))); clear hK K)
              | refine awp_true rfl rfl ?_
              | refine awp_false rfl rfl ?_
              | refine awp_block ?_
              | ((first | refine CallK.new rfl (enter156) (clone_ints pl (by omega)) ?_ ?_ ?_ | refine CallD.new rfl (enter156) (clone_ints pl (by omega)) ?_ ?_ ?_); (focus first | ((repeat (first | exact trivial | refine ⟨(by first | exact Or.inl rfl | exact Or.inr rfl), ?_⟩)); done) | (simp only [coL, AV.dat, true_or, or_true, AV.d.injEq, go_sem]; done)); (focus (simp only [go_sem, s1', s2, s15, s16, s17, hz, e1, epl, hN1, hN2, hN3, hN4, hN5, fN, hnn, Nat.reduceBEq, ite_self, implies_true, Int.toNat_natCast]; done)); simp only [go_sem, s1', s2, s15, s16, s17, hz, e1, epl, hN1, hN2, hN3, hN4, hN5, fN, hnn, Nat.reduceBEq, ite_self, implies_true, Int.toNat_natCast])
              | ((first | refine CallK.chg (enter136) (g3) ?_ (by assumption) (by repeat (first | exact Fr.rfl' _ _ | assumption | refine Fr.updk ?_ (by omega) _)) ?_ | refine CallD.chg (enter136) (g3) ?_ (by assumption) (by repeat (first | exact Fr.rfl' _ _ | assumption | refine Fr.updk ?_ (by omega) _)) (by assumption) ?_); (focus first | ((repeat (first | exact trivial | refine ⟨(by first | exact Or.inl rfl | exact Or.inr rfl), ?_⟩)); done) | (simp only [coL, AV.dat, true_or, or_true, AV.d.injEq, go_sem]; done)); simp only [go_sem, s1', s2, s15, s16, s17, hz, e1, epl, hN1, hN2, hN3, hN4, hN5, fN, hnn, Nat.reduceBEq, ite_self, implies_true, Int.toNat_natCast])
              | refine And.intro (by first | omega | exact trivial | rfl | assumption | (apply map_sz; intro a; simp only [go_sem]; done) | ((and_intros <;> first | omega | exact trivial | rfl | assumption | (apply map_sz; intro a; simp only [go_sem]; done) | fail); done) | fail) ?_
              | fail)
            refine ⟨⟨i + 1, (walkS step t.us[i] si).2, ?_⟩, ?_⟩
            · simp only [go_sem, s1', s2, s15, s16, s17]
              and_intros; all_goals try (first | rfl | omega | assumption | ((repeat (first | exact Fr.rfl' _ _ | assumption | refine Fr.updk ?_ (by omega) _)); done))
              · exact (by repeat (first | assumption | exact Ag.stN (by assumption) _ _ | refine Ag.updk ?_ (by omega) _))
              · exact (by repeat (first | exact FrN.rfl' _ _ _ | assumption | refine FrN.updk ?_ (by omega) _ | refine FrN.stH ?_ _))
              · exact g1 h2
              · rw [← hw]; exact (walkL_go hi' h2).symm
            · simp only [go_sem, s17]; omega
          | false =>
            rw [h2, epl] at g3
            rw [walkL_stop hi' h2] at hw
            rw [← hw]
            dsimp only
            repeat' (first
              | refine awp_seq_k fun K hK => ?_
              | ((first | refine awp_region_k (by kernel_rfl) fun R hR => ?_ | refine awp_draw mixed (by kernel_rfl) (by kernel_rfl) fun R hR => ?_); simp only [go_sem, s1', s2, s15, s16, s17, hz, e1, epl, hN1, hN2, hN3, hN4, hN5, fN, hnn, Nat.reduceBEq, ite_self, implies_true, Int.toNat_natCast])
              | ((first | (refine hR _ ?_; clear hR R) | refine awp_skip ?_ | refine awp_exit ?_ | refine awp_ret ?_); try simp only [thenA, inBlockA, reduceIte, reduceCtorEq, Nat.reduceEqDiff, if_false, if_true])
              | ((first | refine hK _ ?_ | (clear hK K; first | refine hK _ ?_ | (clear hK K; first | refine hK _ ?_ | (clear hK K; first | refine hK _ ?_ | (clear hK K; refine hK _ ?_))))); clear hK K)
              | refine awp_true rfl rfl ?_
              | refine awp_false rfl rfl ?_
              | refine awp_block ?_
              | ((first | refine CallK.new rfl (enter156) (clone_ints pl (by omega)) ?_ ?_ ?_ | refine CallD.new rfl (enter156) (clone_ints pl (by omega)) ?_ ?_ ?_); (focus first | ((repeat (first | exact trivial | refine ⟨(by first | exact Or.inl rfl | exact Or.inr rfl), ?_⟩)); done) | (simp only [coL, AV.dat, true_or, or_true, AV.d.injEq, go_sem]; done)); (focus (simp only [go_sem, s1', s2, s15, s16, s17, hz, e1, epl, hN1, hN2, hN3, hN4, hN5, fN, hnn, Nat.reduceBEq, ite_self, implies_true, Int.toNat_natCast]; done)); simp only [go_sem, s1', s2, s15, s16, s17, hz, e1, epl, hN1, hN2, hN3, hN4, hN5, fN, hnn, Nat.reduceBEq, ite_self, implies_true, Int.toNat_natCast])
              | ((first | refine CallK.chg (enter136) (g3) ?_ (by assumption) (by repeat (first | exact Fr.rfl' _ _ | assumption | refine Fr.updk ?_ (by omega) _)) ?_ | refine CallD.chg (enter136) (g3) ?_ (by assumption) (by repeat (first | exact Fr.rfl' _ _ | assumption | refine Fr.updk ?_ (by omega) _)) (by assumption) ?_); (focus first | ((repeat (first | exact trivial | refine ⟨(by first | exact Or.inl rfl | exact Or.inr rfl), ?_⟩)); done) | (simp only [coL, AV.dat, true_or, or_true, AV.d.injEq, go_sem]; done)); simp only [go_sem, s1', s2, s15, s16, s17, hz, e1, epl, hN1, hN2, hN3, hN4, hN5, fN, hnn, Nat.reduceBEq, ite_self, implies_true, Int.toNat_natCast])
              | refine And.intro (by first | omega | exact trivial | rfl | assumption | (apply map_sz; intro a; simp only [go_sem]; done) | ((and_intros <;> first | omega | exact trivial | rfl | assumption | (apply map_sz; intro a; simp only [go_sem]; done) | fail); done) | fail) ?_
              | fail)
            refine ret_st (by simp only [Try.results136, resOkL, resOk, Try.ntmps136, List.toList_toArray]; first | decide | (simp only [go_sem]; done) | (simp only [go_sem]; and_intros <;> first | omega | rfl | decide)) ?_ (by repeat (first | assumption | exact Ag.stN (by assumption) _ _ | refine Ag.updk ?_ (by omega) _)) (by repeat (first | exact FrN.rfl' _ _ _ | assumption | refine FrN.updk ?_ (by omega) _ | refine FrN.stH ?_ _)) (by assumption)
            simp only [resA, resV, Try.results136, go_sem]
            all_goals try (first | exact .dat rfl | exact Co.t2 (.dat rfl) (.dat rfl) | exact Co.t3 (.dat rfl) (.dat rfl) (.dat rfl))
        · have hz : ¬ ((i : Int) < (t.us.length : Int)) := by omega
          have hw' : walkL step t.us s1 = (true, si) := by rw [← hw, List.drop_eq_nil_of_le hge]; rw [walkL]
          have hcl := hN si k hlt
          repeat' (first
            | refine awp_seq_k fun K hK => ?_
            | ((first | refine awp_region_k (by kernel_rfl) fun R hR => ?_ | refine awp_draw mixed (by kernel_rfl) (by kernel_rfl) fun R hR => ?_); simp only [go_sem, s16, s17, hz])
            | ((first | (refine hR _ ?_; clear hR R) | refine awp_skip ?_ | refine awp_exit ?_ | refine awp_ret ?_); try simp only [thenA, inBlockA, reduceIte, reduceCtorEq, Nat.reduceEqDiff, if_false, if_true])
            | ((first | refine hK _ ?_ | (clear hK K; first | refine hK _ ?_ | (clear hK K; first | refine hK _ ?_ | (clear hK K; first | refine hK _ ?_ | (clear hK K; refine hK _ ?_))))); clear hK K)
            | refine awp_true rfl rfl ?_
            | refine awp_false rfl rfl ?_
            | refine awp_block ?_
            | refine And.intro (by first | omega | exact trivial | rfl | assumption | (apply map_sz; intro a; simp only [go_sem]; done) | ((and_intros <;> first | omega | exact trivial | rfl | assumption | (apply map_sz; intro a; simp only [go_sem]; done) | fail); done) | fail) ?_
            | fail)
          rw [hw']
          dsimp only
          refine ret_st (by simp only [Try.results136, resOkL, resOk, Try.ntmps136, List.toList_toArray]; first | decide | (simp only [go_sem]; done) | (simp only [go_sem]; and_intros <;> first | omega | rfl | decide)) ?_ (by repeat (first | assumption | exact Ag.stN (by assumption) _ _ | refine Ag.updk ?_ (by omega) _)) (by repeat (first | exact FrN.rfl' _ _ _ | assumption | refine FrN.updk ?_ (by omega) _ | refine FrN.stH ?_ _)) (by assumption)
          simp only [resA, resV, Try.results136, go_sem]
          all_goals try (first | exact .dat rfl | exact Co.t2 (.dat rfl) (.dat rfl) | exact Co.t3 (.dat rfl) (.dat rfl) (.dat rfl))
theorem walk_any : ∀ t : Tm, WalkSpec O N g caps step I t := Tm.ind (walk_step O N g caps step I hN hg hne)
set_option maxRecDepth 20000 in
theorem walk_tri (t : Tm) (hdo : ∀ x ∈ pre t, DoOK O N g caps step I x) (n : Nat) (s : S) (hI : I (t.size + n) s) (hsz : t.size ≤ 4000000) : Tri Try.prog 111 [.d (tmDV t), .fn (.func g) [] caps] (stE N (O s) (O (walkS step t s).2) (bA (walkS step t s).1)) := by
  have h1 := (walk_any O N g caps step I hN hg hne t hdo n s hI).2 [] (by simpa using hsz)
  refine tri_enter_st Try.func111 rfl Try.ntmps111 (by simp only [List.length_cons, List.length_nil]; omega) fun w0 h0 k hag => ?_
  have hlt : ∀ n ∈ N, n.1 < k := fun n hn => (hag.get n hn).1
  have hNk := notN hag (Nat.le_refl k)
  have hNk1 := notN hag (k' := k + 1) (by omega)
  have hcl := hN (walkS step t s).2 k hlt
  repeat' (first
    | refine awp_seq_k fun K hK => ?_
    | ((first | refine awp_region_k (by kernel_rfl) fun R hR => ?_ | refine awp_draw mixed (by kernel_rfl) (by kernel_rfl) fun R hR => ?_); simp only [go_sem, hNk, hNk1])
    | ((first | (refine hR _ ?_; clear hR R) | refine awp_skip ?_ | refine awp_exit ?_ | refine awp_ret ?_); try simp only [thenA, inBlockA, reduceIte, reduceCtorEq, Nat.reduceEqDiff, if_false, if_true])
    | ((first | refine hK _ ?_ | (clear hK K; first | refine hK _ ?_ | (clear hK K; first | refine hK _ ?_ | (clear hK K; first | refine hK _ ?_ | (clear hK K; refine hK _ ?_))))); clear hK K)
    | refine awp_true rfl rfl ?_
    | refine awp_false rfl rfl ?_
    | refine awp_block ?_
    | ((first | refine CallK.chg (enter136) (h1) ?_ (by assumption) (by repeat (first | exact Fr.rfl' _ _ | assumption | refine Fr.updk ?_ (by omega) _)) ?_ | refine CallD.chg (enter136) (h1) ?_ (by assumption) (by repeat (first | exact Fr.rfl' _ _ | assumption | refine Fr.updk ?_ (by omega) _)) (by assumption) ?_); (focus first | ((repeat (first | exact trivial | refine ⟨(by first | exact Or.inl rfl | exact Or.inr rfl), ?_⟩)); done) | (simp only [coL, AV.dat, true_or, or_true, AV.d.injEq, go_sem]; done)); simp only [go_sem, hNk, hNk1])
    | refine And.intro (by first | omega | exact trivial | rfl | assumption | (apply map_sz; intro a; simp only [go_sem]; done) | ((and_intros <;> first | omega | exact trivial | rfl | assumption | (apply map_sz; intro a; simp only [go_sem]; done) | fail); done) | fail) ?_
    | fail)
  refine ret_st (by simp only [Try.results111, resOkL, resOk, Try.ntmps111, List.toList_toArray]; first | decide | (simp only [go_sem]; done) | (simp only [go_sem]; and_intros <;> first | omega | rfl | decide)) ?_ (by repeat (first | assumption | exact Ag.stN (by assumption) _ _ | refine Ag.updk ?_ (by omega) _)) (by repeat (first | exact FrN.rfl' _ _ _ | assumption | refine FrN.updk ?_ (by omega) _ | refine FrN.stH ?_ _)) (by assumption)
  simp only [resA, resV, Try.results111, go_sem]
  all_goals try (first | exact .dat rfl | exact Co.t2 (.dat rfl) (.dat rfl) | exact Co.t3 (.dat rfl) (.dat rfl) (.dat rfl))
end
end Go.Proofs.Ytmeekpinkfpnhaa

namespace Go.Proofs.Ytmeekpinkfpnhaa
open Go.RowKit
set_option linter.unusedSimpArgs false
set_option linter.unusedSectionVars false

theorem preL_flat (us : List Tm) : preL us = us.flatMap pre := by
  induction us with
  | nil => rfl
  | cons x xs ih => rw [preL, List.flatMap_cons, ih]
theorem sizes_append (a b : List Tm) : Tm.size.sizes (a ++ b) = Tm.size.sizes a + Tm.size.sizes b := by
  induction a with
  | nil => simp [Tm.size.sizes]
  | cons x xs ih => simp [Tm.size.sizes, ih, Nat.add_assoc]
theorem sizes_take (l : List Tm) (i : Nat) : Tm.size.sizes (l.take i) ≤ Tm.size.sizes l := by
  have h := sizes_append (l.take i) (l.drop i)
  rw [List.take_append_drop] at h
  omega
/-- The box and the list that term.Stands fills. -/
def stO (b m : Nm) (s : List Int) (x : Nm) : Ob := if x = b then .cells 22 [.own m (s.map iD)] else .perm 3 s.length
def stStep (x : Tm) (s : List Int) : Bool × List Int := (true, addV s x)
mutual
theorem walk_stands : ∀ (t : Tm) (s : List Int), walkS stStep t s = (true, addVs s (pre t))
  | .mk v f us, s => by
    rw [walkS, pre]
    simp only [stStep, if_true]
    exact walkL_stands us (addV s (.mk v f us))
theorem walkL_stands : ∀ (us : List Tm) (s : List Int), walkL stStep us s = (true, addVs s (preL us))
  | [], s => rfl
  | x :: xs, s => by
    rw [walkL, preL, addVs_append, walk_stands x s]
    simp only [if_true]
    exact walkL_stands xs _
end
theorem stO_b (b m : Nm) (s : List Int) : stO b m s b = .cells 22 [.own m (s.map iD)] := by simp [stO]
theorem stO_m {b m : Nm} (h : b ≠ m) (s : List Int) : stO b m s m = .perm 3 s.length := by simp [stO, Ne.symm h]
theorem stO_cl (b m : Nm) (s : List Int) (k : Nat) (h : ∀ n ∈ [b, m], n.1 < k) : Cl k [b, m] (stO b m s) := by
  intro n _ x hx
  unfold stO at hx
  split at hx
  · simp [Ob.names, namesL, AV.names] at hx; rw [hx]; exact h m (by simp)
  · simp [Ob.names] at hx
set_option maxRecDepth 20000 in
theorem stands1_tri {b m : Nm} (hbm : b ≠ m) (s : List Int) (hs : s.length ≤ 16000000) (pl : List Int) (x : Tm) : Tri Try.prog 112 [.d (.sl (pl.map iD)), .d (tmDV x), .ptr b 0] (stE [b, m] (stO b m s) (stO b m (addV s x)) (bA true)) := by
  refine tri_enter_st Try.func112 rfl Try.ntmps112 (by simp only [List.length_cons, List.length_nil]; omega) fun w0 h0 k hag => ?_
  obtain ⟨hb, eb⟩ := hag.get b (by simp)
  obtain ⟨hm, em⟩ := hag.get m (by simp)
  rw [stO_b] at eb
  rw [stO_m hbm] at em
  have nb := nmne hb
  have nm := nmne hm
  have h1 : (b = m) = False := eq_false hbm
  have h2 : (m = b) = False := eq_false hbm.symm
  cases hv : decide (x.v > 0) with
  | false =>
    have hadd : addV s x = s := by unfold addV; rw [if_neg (by simp at hv; omega)]
    repeat' (first
      | refine awp_seq_k fun K hK => ?_
      | ((first | refine awp_region_k (by kernel_rfl) fun R hR => ?_ | refine awp_draw mixed (by kernel_rfl) (by kernel_rfl) fun R hR => ?_); simp only [go_sem, eb, em, nb, nm, h1, h2, hv])
      | ((first | (refine hR _ ?_; clear hR R) | refine awp_skip ?_ | refine awp_exit ?_ | refine awp_ret ?_); try simp only [thenA, inBlockA, reduceIte, reduceCtorEq, Nat.reduceEqDiff, if_false, if_true])
      | ((first | refine hK _ ?_ | (clear hK K; first | refine hK _ ?_ | (clear hK K; first | refine hK _ ?_ | (clear hK K; first | refine hK _ ?_ | (clear hK K; refine hK _ ?_))))); clear hK K)
      | refine awp_true rfl rfl ?_
      | refine awp_false rfl rfl ?_
      | refine awp_block ?_
      | refine And.intro (by first | omega | exact trivial | rfl | assumption | (apply map_sz; intro a; simp only [go_sem]; done) | ((and_intros <;> first | omega | exact trivial | rfl | assumption | (apply map_sz; intro a; simp only [go_sem]; done) | fail); done) | fail) ?_
      | fail)
    refine ret_st (by simp only [Try.results112, resOkL, resOk, Try.ntmps112, List.toList_toArray]; first | decide | (simp only [go_sem]; done) | (simp only [go_sem]; and_intros <;> first | omega | rfl | decide)) (by simp only [resA, resV, Try.results112, go_sem]; first | exact .dat rfl | exact Co.t2 (.dat rfl) (.dat rfl) | exact Co.t3 (.dat rfl) (.dat rfl) (.dat rfl)) ?_ ?_ ?_
    · rw [hadd]; exact (by repeat (first | assumption | exact Ag.stN (by assumption) _ _ | refine Ag.updk ?_ (by omega) _))
    · exact (by repeat (first | exact FrN.rfl' _ _ _ | assumption | refine FrN.updk ?_ (by omega) _ | refine FrN.stH ?_ _))
    · exact stO_cl b m _ k fun n hn => (hag.get n hn).1
  | true =>
    cases hc : s.contains x.v with
    | true =>
      have hadd : addV s x = s := by unfold addV; rw [if_neg]; rintro ⟨_, h⟩; rw [hc] at h; cases h
      repeat' (first
        | refine awp_seq_k fun K hK => ?_
        | ((first | refine awp_region_k (by kernel_rfl) fun R hR => ?_ | refine awp_draw mixed (by kernel_rfl) (by kernel_rfl) fun R hR => ?_); simp only [go_sem, eb, em, nb, nm, h1, h2, hv, hc])
        | ((first | (refine hR _ ?_; clear hR R) | refine awp_skip ?_ | refine awp_exit ?_ | refine awp_ret ?_); try simp only [thenA, inBlockA, reduceIte, reduceCtorEq, Nat.reduceEqDiff, if_false, if_true])
        | ((first | refine hK _ ?_ | (clear hK K; first | refine hK _ ?_ | (clear hK K; first | refine hK _ ?_ | (clear hK K; first | refine hK _ ?_ | (clear hK K; refine hK _ ?_))))); clear hK K)
        | refine awp_true rfl rfl ?_
        | refine awp_false rfl rfl ?_
        | refine awp_block ?_
        | ((first | refine CallK.pure (enter113) (contains_tri s (by omega) x.v) ?_ ?_ | refine CallD.pure (enter113) (contains_tri s (by omega) x.v) ?_ ?_); (focus first | ((repeat (first | exact trivial | refine ⟨(by first | exact Or.inl rfl | exact Or.inr rfl), ?_⟩)); done) | (simp only [coL, AV.dat, true_or, or_true, AV.d.injEq, go_sem]; done)); simp only [go_sem, eb, em, nb, nm, h1, h2, hv, hc])
        | refine And.intro (by first | omega | exact trivial | rfl | assumption | (apply map_sz; intro a; simp only [go_sem]; done) | ((and_intros <;> first | omega | exact trivial | rfl | assumption | (apply map_sz; intro a; simp only [go_sem]; done) | fail); done) | fail) ?_
        | fail)
      refine ret_st (by simp only [Try.results112, resOkL, resOk, Try.ntmps112, List.toList_toArray]; first | decide | (simp only [go_sem]; done) | (simp only [go_sem]; and_intros <;> first | omega | rfl | decide)) (by simp only [resA, resV, Try.results112, go_sem]; first | exact .dat rfl | exact Co.t2 (.dat rfl) (.dat rfl) | exact Co.t3 (.dat rfl) (.dat rfl) (.dat rfl)) ?_ ?_ ?_
      · rw [hadd]; exact (by repeat (first | assumption | exact Ag.stN (by assumption) _ _ | refine Ag.updk ?_ (by omega) _))
      · exact (by repeat (first | exact FrN.rfl' _ _ _ | assumption | refine FrN.updk ?_ (by omega) _ | refine FrN.stH ?_ _))
      · exact stO_cl b m _ k fun n hn => (hag.get n hn).1
    | false =>
      have hadd : addV s x = s ++ [x.v] := by unfold addV; rw [if_pos ⟨by simpa using hv, hc⟩]
      repeat' (first
        | refine awp_seq_k fun K hK => ?_
        | ((first | refine awp_region_k (by kernel_rfl) fun R hR => ?_ | refine awp_draw mixed (by kernel_rfl) (by kernel_rfl) fun R hR => ?_); simp only [go_sem, eb, em, nb, nm, h1, h2, hv, hc, List.length_map])
        | ((first | (refine hR _ ?_; clear hR R) | refine awp_skip ?_ | refine awp_exit ?_ | refine awp_ret ?_); try simp only [thenA, inBlockA, reduceIte, reduceCtorEq, Nat.reduceEqDiff, if_false, if_true])
        | ((first | refine hK _ ?_ | (clear hK K; first | refine hK _ ?_ | (clear hK K; first | refine hK _ ?_ | (clear hK K; first | refine hK _ ?_ | (clear hK K; refine hK _ ?_))))); clear hK K)
        | refine awp_true rfl rfl ?_
        | refine awp_false rfl rfl ?_
        | refine awp_block ?_
        | ((first | refine CallK.pure (enter113) (contains_tri s (by omega) x.v) ?_ ?_ | refine CallD.pure (enter113) (contains_tri s (by omega) x.v) ?_ ?_); (focus first | ((repeat (first | exact trivial | refine ⟨(by first | exact Or.inl rfl | exact Or.inr rfl), ?_⟩)); done) | (simp only [coL, AV.dat, true_or, or_true, AV.d.injEq, go_sem]; done)); simp only [go_sem, eb, em, nb, nm, h1, h2, hv, hc, List.length_map])
        | refine And.intro (by first | omega | exact trivial | rfl | assumption | (apply map_sz; intro a; simp only [go_sem]; done) | ((and_intros <;> first | omega | exact trivial | rfl | assumption | (apply map_sz; intro a; simp only [go_sem]; done) | fail); done) | fail) ?_
        | fail)
      refine ret_st (by simp only [Try.results112, resOkL, resOk, Try.ntmps112, List.toList_toArray]; first | decide | (simp only [go_sem]; done) | (simp only [go_sem]; and_intros <;> first | omega | rfl | decide)) (by simp only [resA, resV, Try.results112, go_sem]; first | exact .dat rfl | exact Co.t2 (.dat rfl) (.dat rfl) | exact Co.t3 (.dat rfl) (.dat rfl) (.dat rfl)) ?_ ?_ ?_
      · refine ⟨fun n hn => ⟨(hag.get n hn).1, ?_⟩⟩
        simp only [List.mem_cons, List.not_mem_nil, or_false] at hn
        rcases hn with rfl | rfl
        · rw [stO_b, hadd]; simp only [go_sem, nb, nm, h1, h2]; simp
        · rw [stO_m hbm, hadd]; simp only [go_sem, nb, nm, h1, h2]; simp
      · refine FrN.updn (FrN.updn (by repeat (first | exact FrN.rfl' _ _ _ | assumption | refine FrN.updk ?_ (by omega) _ | refine FrN.stH ?_ _)) (by simp) _) (by simp) _
      · exact stO_cl b m _ k fun n hn => (hag.get n hn).1
set_option maxRecDepth 20000 in
theorem stands_tri (l : List Tm) (hl : (Tm.size.sizes l) ≤ 4000000) : Tri Try.prog 70 [.d (.sl (l.map tmDV))] (pure' (.d (.sl ((addVs [] (l.flatMap pre)).map iD)))) := by
  refine tri_enter Try.func70 rfl Try.ntmps70 (by simp only [List.length_cons, List.length_nil]; omega) fun w0 h0 k hrd hwr => ?_
  repeat' (first
    | refine awp_ghost (ghost_box (b := (k + 1, 0)) (e := 3) (e' := 22) (upd_self _ _ _)) ?_
    | refine awp_seq_k fun K hK => ?_
    | ((first | refine awp_region_k (by kernel_rfl) fun R hR => ?_ | refine awp_draw mixed (by kernel_rfl) (by kernel_rfl) fun R hR => ?_); simp only [go_sem])
    | ((first | (refine hR _ ?_; clear hR R) | refine awp_skip ?_ | refine awp_exit ?_ | refine awp_ret ?_); try simp only [thenA, inBlockA, reduceIte, reduceCtorEq, Nat.reduceEqDiff, if_false, if_true])
    | ((first | refine hK _ ?_ | (clear hK K; first | refine hK _ ?_ | (clear hK K; first | refine hK _ ?_ | (clear hK K; first | refine hK _ ?_ | (clear hK K; refine hK _ ?_))))); clear hK K)
    | refine awp_true rfl rfl ?_
    | refine awp_false rfl rfl ?_
    | refine awp_block ?_
    | refine And.intro (by first | omega | exact trivial | rfl | assumption | (apply map_sz; intro a; simp only [go_sem]; done) | ((and_intros <;> first | omega | exact trivial | rfl | assumption | (apply map_sz; intro a; simp only [go_sem]; done) | fail); done) | fail) ?_
    | fail)
  obtain ⟨b, hb⟩ : ∃ b : Nm, b = (k + 1, 0) := ⟨_, rfl⟩
  obtain ⟨m, hm⟩ : ∃ m : Nm, m = (k + 1 + 1, 0) := ⟨_, rfl⟩
  have hbm : b ≠ m := by rw [hb, hm]; simp
  refine awp_loop (fun σ => ∃ i : Nat, σ.t 3 = .ptr b 0 ∧ σ.t 6 = .d (.sl (l.map tmDV)) ∧ σ.t 7 = iA l.length ∧ σ.t 8 = iA i ∧ Ag (k + 1 + 1 + 1) [b, m] (stO b m (addVs [] ((l.take i).flatMap pre))) σ.h ∧ Fr k h0 σ.h ∧ k + 1 + 1 + 1 ≤ σ.k ∧ i ≤ l.length) (fun σ => l.length - (intOf' (σ.t 8)).toNat) ?_ ?_
  · refine ⟨0, ?_⟩
    simp only [go_sem, hb]
    and_intros; all_goals try (first | rfl | omega | assumption | ((repeat (first | exact Fr.rfl' _ _ | assumption | refine Fr.updk ?_ (by omega) _)); done))
    refine ⟨fun n hn => ?_⟩
    simp only [List.mem_cons, List.not_mem_nil, or_false] at hn
    rcases hn with h | h
    · rw [h, stO_b, hm]
      refine ⟨by simp only; omega, ?_⟩
      simp only [go_sem, ]
      rfl
    · rw [h, stO_m (hb ▸ hbm), hm]
      refine ⟨by simp only; omega, ?_⟩
      simp only [go_sem, ]
      rfl
  · rintro σ ⟨i, s3, s6, s7, s8, hA, hF, hk, hi⟩
    have hll := Tm.sizes_len l
    rcases Nat.lt_or_ge i l.length with hlt | hge
    · have hz : (i : Int) < (l.length : Int) := by omega
      have e1 : (l.map tmDV).getD i default = tmDV l[i] := nth_map tmDV hlt _
      have hsz := Tm.sizes_at l i hlt
      have hcl := stO_cl b m
      have hlen : (addVs [] ((l.take i).flatMap pre)).length ≤ 4000000 := by
        have h1 := addVs_len ((l.take i).flatMap pre) []
        rw [← preL_flat, preL_len] at h1
        have h2 := sizes_take l i
        rw [← preL_flat]
        simp only [List.length_nil] at h1
        omega
      have hw := walk_tri (stO b m) [b, m] 112 [.ptr b 0] stStep (fun n s => s.length + n ≤ 16000000) (stO_cl b m) ((enter112)) (by simp) l[i] (fun x _ n s hs => ⟨by have := addV_len s x; simp only [stStep]; omega, fun pl => stands1_tri hbm s (by omega) pl x⟩) 0 (addVs [] ((l.take i).flatMap pre)) (by omega) (by omega)
      rw [walk_stands, ← addVs_append] at hw
      have ht : (l.take i).flatMap pre ++ pre l[i] = (l.take (i + 1)).flatMap pre := by rw [List.take_succ_eq_append_getElem hlt, List.flatMap_append]; simp
      rw [ht] at hw
      have hN1 := notN hA (k' := σ.k) (by omega)
      repeat' (first
        | refine awp_seq_k fun K hK => ?_
        | ((first | refine awp_region_k (by kernel_rfl) fun R hR => ?_ | refine awp_draw mixed (by kernel_rfl) (by kernel_rfl) fun R hR => ?_); simp only [go_sem, s3, s6, s7, s8, hz, e1, hN1, Int.toNat_natCast])
        | ((first | (refine hR _ ?_; clear hR R) | refine awp_skip ?_ | refine awp_exit ?_ | refine awp_ret ?_); try simp only [thenA, inBlockA, reduceIte, reduceCtorEq, Nat.reduceEqDiff, if_false, if_true])
        | ((first | refine hK _ ?_ | (clear hK K; first | refine hK _ ?_ | (clear hK K; first | refine hK _ ?_ | (clear hK K; first | refine hK _ ?_ | (clear hK K; refine hK _ ?_))))); clear hK K)
        | refine awp_true rfl rfl ?_
        | refine awp_false rfl rfl ?_
        | refine awp_block ?_
        | ((first | refine CallK.chg (enter111) (hw) ?_ (by assumption) (by repeat (first | exact Fr.rfl' _ _ | assumption | refine Fr.updk ?_ (by omega) _)) ?_ | refine CallD.chg (enter111) (hw) ?_ (by assumption) (by repeat (first | exact Fr.rfl' _ _ | assumption | refine Fr.updk ?_ (by omega) _)) (by assumption) ?_); (focus first | ((repeat (first | exact trivial | refine ⟨(by first | exact Or.inl rfl | exact Or.inr rfl), ?_⟩)); done) | (simp only [coL, AV.dat, true_or, or_true, AV.d.injEq, go_sem]; done)); simp only [go_sem, s3, s6, s7, s8, hz, e1, hN1, Int.toNat_natCast])
        | refine And.intro (by first | omega | exact trivial | rfl | assumption | (apply map_sz; intro a; simp only [go_sem]; done) | ((and_intros <;> first | omega | exact trivial | rfl | assumption | (apply map_sz; intro a; simp only [go_sem]; done) | fail); done) | fail) ?_
        | fail)
      refine ⟨⟨i + 1, ?_⟩, ?_⟩
      · simp only [go_sem, s3, s6, s7, s8]
        and_intros; all_goals try (first | rfl | omega | assumption | ((repeat (first | exact Fr.rfl' _ _ | assumption | refine Fr.updk ?_ (by omega) _)); done))
        · exact Ag.stN (fun n hn => (hA.get n hn).1) _ _
        · exact Fr.stH (by repeat (first | exact Fr.rfl' _ _ | assumption | refine Fr.updk ?_ (by omega) _)) _ (fun n hn => by
            simp only [List.mem_cons, List.not_mem_nil, or_false] at hn
            rcases hn with h | h <;> rw [h] <;> (first | rw [hb] | rw [hm]) <;> simp only <;> omega)
      · simp only [go_sem, s8]; omega
    · have hz : ¬ ((i : Int) < (l.length : Int)) := by omega
      obtain rfl : i = l.length := by omega
      rw [List.take_length] at hA
      have hbg := (hA.get b (by simp)).2
      rw [stO_b] at hbg
      repeat' (first
        | refine awp_seq_k fun K hK => ?_
        | ((first | refine awp_region_k (by kernel_rfl) fun R hR => ?_ | refine awp_draw mixed (by kernel_rfl) (by kernel_rfl) fun R hR => ?_); simp only [go_sem, s3, s7, s8, hz, hbg])
        | ((first | (refine hR _ ?_; clear hR R) | refine awp_skip ?_ | refine awp_exit ?_ | refine awp_ret ?_); try simp only [thenA, inBlockA, reduceIte, reduceCtorEq, Nat.reduceEqDiff, if_false, if_true])
        | ((first | refine hK _ ?_ | (clear hK K; first | refine hK _ ?_ | (clear hK K; first | refine hK _ ?_ | (clear hK K; first | refine hK _ ?_ | (clear hK K; refine hK _ ?_))))); clear hK K)
        | refine awp_true rfl rfl ?_
        | refine awp_false rfl rfl ?_
        | refine awp_block ?_
        | refine And.intro (by first | omega | exact trivial | rfl | assumption | (apply map_sz; intro a; simp only [go_sem]; done) | ((and_intros <;> first | omega | exact trivial | rfl | assumption | (apply map_sz; intro a; simp only [go_sem]; done) | fail); done) | fail) ?_
        | fail)
      first | refine ret_pure (by simp only [Try.results70, resOkL, resOk, Try.ntmps70, List.toList_toArray]; first | decide | (simp only [go_sem]; done) | (simp only [go_sem]; and_intros <;> first | omega | rfl | decide)) ?_ (by repeat (first | exact Fr.rfl' _ _ | assumption | refine Fr.updk ?_ (by omega) _)) | refine ret_ro (by simp only [Try.results70, resOkL, resOk, Try.ntmps70, List.toList_toArray]; first | decide | (simp only [go_sem]; done) | (simp only [go_sem]; and_intros <;> first | omega | rfl | decide)) ?_ (by repeat (first | exact Fr.rfl' _ _ | assumption | refine Fr.updk ?_ (by omega) _))
      simp only [resA, resV, Try.results70, go_sem]
      all_goals try (first | exact Co.t2 (.dat rfl) (.dat rfl) | exact Co.t3 (.dat rfl) (.dat rfl) (.dat rfl))
      exact .dat rfl
end Go.Proofs.Ytmeekpinkfpnhaa

namespace Go.Proofs.Ytmeekpinkfpnhaa
open Go.RowKit
set_option linter.unusedSimpArgs false
set_option linter.unusedSectionVars false

def PartsSpec' (t : Tm) : Prop := t.fits → ∀ (n : Nm) (l : List Tm), l.length + (parts t).length ≤ 4000000 →
  Tri Try.prog 63 [.own n (l.map tmDV), .d (tmDV t)] (ownEff 27 n (l.map tmDV) ((l ++ parts t).map tmDV))
theorem partsOf_step (t : Tm) (ih : ∀ u ∈ t.us, PartsSpec' u) : PartsSpec' t := by
  intro hft n l hsz
  have hlen := Tm.fits_len hft
  have hp2 := parts_eq t
  have hp3 : (parts t).length = (partsL t.us).length + 1 := by rw [hp2]; simp
  refine tri_enter Try.func63 rfl Try.ntmps63 (by simp only [List.length_cons, List.length_nil]; omega) fun w0 h0 k hrd hwr => ?_
  have hn : h0 n = some (.perm 27 (l.map tmDV).length) := hrd (n, _) (by simp [ownEff])
  have hnk : n.1 < k := hwr (n, _) (by simp only [ownEff, List.mem_cons, List.not_mem_nil, or_false]; rfl)
  have hne := nmne hnk
  rw [List.length_map] at hn
  repeat' (first
    | refine awp_seq_k fun K hK => ?_
    | ((first | refine awp_region_k (by kernel_rfl) fun R hR => ?_ | refine awp_draw mixed (by kernel_rfl) (by kernel_rfl) fun R hR => ?_); simp only [go_sem, hne])
    | ((first | (refine hR _ ?_; clear hR R) | refine awp_skip ?_ | refine awp_exit ?_ | refine awp_ret ?_); try simp only [thenA, inBlockA, reduceIte, reduceCtorEq, Nat.reduceEqDiff, if_false, if_true])
    | ((first | refine hK _ ?_ | (clear hK K; first | refine hK _ ?_ | (clear hK K; first | refine hK _ ?_ | (clear hK K; first | refine hK _ ?_ | (clear hK K; refine hK _ ?_))))); clear hK K)
    | refine awp_true rfl rfl ?_
    | refine awp_false rfl rfl ?_
    | refine awp_block ?_
    | refine And.intro (by first | omega | exact trivial | rfl | assumption | (apply map_sz; intro a; simp only [go_sem]; done) | ((and_intros <;> first | omega | exact trivial | rfl | assumption | (apply map_sz; intro a; simp only [go_sem]; done) | fail); done) | fail) ?_
    | fail)
  refine awp_loop (fun s => ∃ (i : Nat), s.t 0 = .own n ((l ++ partsL (t.us.take i)).map tmDV) ∧ s.t 3 = .ptr (k, 0) 0 ∧ s.t 5 = iA i ∧ s.h (k, 0) = some (.cells 27 [iA t.v, iA t.f, .d (.sl (t.us.map tmDV))]) ∧
    s.h n = some (.perm 27 (l ++ partsL (t.us.take i)).length) ∧ FrX k n h0 s.h ∧ k < s.k ∧ i ≤ t.us.length) (fun s => t.us.length - (intOf' (s.t 5)).toNat) ?_ ?_
  · refine ⟨0, ?_⟩
    simp only [go_sem, hne, hn, partsL, List.take_zero, List.append_nil]
    and_intros; all_goals try (first | rfl | omega | assumption | ((repeat (first | exact Fr.rfl' _ _ | assumption | refine Fr.updk ?_ (by omega) _)); done))
    exact FrX.updk (FrX.rfl' _ _ _) (by omega) _
  · rintro s ⟨i, s0, s3, s5, sh, sn, hfr, hk, hi⟩
    have hne' := nmne (show n.1 < s.k by omega)
    rcases Nat.lt_or_ge i t.us.length with hlt | hge
    · have e1 := nth_map tmDV hlt default
      have hz : (i : Int) < (t.us.length : Int) := by omega
      have hp := partsL_at hlt
      repeat' (first
        | refine awp_seq_k fun K hK => ?_
        | ((first | refine awp_region_k (by kernel_rfl) fun R hR => ?_ | refine awp_draw mixed (by kernel_rfl) (by kernel_rfl) fun R hR => ?_); simp only [go_sem, s0, s3, s5, sh, sn, e1, hz, hne, hne', Int.toNat_natCast])
        | ((first | (refine hR _ ?_; clear hR R) | refine awp_skip ?_ | refine awp_exit ?_ | refine awp_ret ?_); try simp only [thenA, inBlockA, reduceIte, reduceCtorEq, Nat.reduceEqDiff, if_false, if_true])
        | ((first | refine hK _ ?_ | (clear hK K; first | refine hK _ ?_ | (clear hK K; first | refine hK _ ?_ | (clear hK K; first | refine hK _ ?_ | (clear hK K; refine hK _ ?_))))); clear hK K)
        | refine awp_true rfl rfl ?_
        | refine awp_false rfl rfl ?_
        | refine awp_block ?_
        | ((first | refine CallK.eff (enter63) (ih _ (List.getElem_mem hlt) (Tm.fits_at hft hlt) n (l ++ partsL (t.us.take i)) (by rw [List.length_append]; omega)) ?_ ?_ ?_ ?_ | refine CallD.eff (enter63) (ih _ (List.getElem_mem hlt) (Tm.fits_at hft hlt) n (l ++ partsL (t.us.take i)) (by rw [List.length_append]; omega)) ?_ ?_ ?_ ?_); (focus first | ((repeat (first | exact trivial | refine ⟨(by first | exact Or.inl rfl | exact Or.inr rfl), ?_⟩)); done) | (simp only [coL, AV.dat, true_or, or_true, AV.d.injEq, go_sem]; done)); (focus (simp only [go_sem, s0, s3, s5, sh, sn, e1, hz, hne, hne', Int.toNat_natCast]; done)); (focus (simp only [go_sem, s0, s3, s5, sh, sn, e1, hz, hne, hne', Int.toNat_natCast]; done)); simp only [go_sem, s0, s3, s5, sh, sn, e1, hz, hne, hne', Int.toNat_natCast])
        | refine And.intro (by first | omega | exact trivial | rfl | assumption | (apply map_sz; intro a; simp only [go_sem]; done) | ((and_intros <;> first | omega | exact trivial | rfl | assumption | (apply map_sz; intro a; simp only [go_sem]; done) | fail); done) | fail) ?_
        | fail)
      refine ⟨⟨i + 1, ?_⟩, ?_⟩
      rotate_left
      · simp only [go_sem, s0, s3, s5, sh, sn, hne, hne', partsL_take hlt]; omega
      simp only [go_sem, s0, s3, s5, sh, sn, hne, hne', partsL_take hlt]
      and_intros; all_goals try (first | rfl | omega | assumption | ((repeat (first | exact Fr.rfl' _ _ | assumption | refine Fr.updk ?_ (by omega) _)); done))
      exact FrX.updn hfr _
    · have hz : ¬ ((i : Int) < (t.us.length : Int)) := by omega
      obtain rfl : i = t.us.length := by omega
      have e2 : partsL (List.take t.us.length t.us) = partsL t.us := by rw [List.take_length]
      rw [e2] at s0 sn
      have hl : (l ++ partsL t.us).length ≤ 16777215 := by rw [List.length_append]; omega
      repeat' (first
        | refine awp_seq_k fun K hK => ?_
        | ((first | refine awp_region_k (by kernel_rfl) fun R hR => ?_ | refine awp_draw mixed (by kernel_rfl) (by kernel_rfl) fun R hR => ?_); simp only [go_sem, s0, s3, s5, sh, sn, hz, hne, hne'])
        | ((first | (refine hR _ ?_; clear hR R) | refine awp_skip ?_ | refine awp_exit ?_ | refine awp_ret ?_); try simp only [thenA, inBlockA, reduceIte, reduceCtorEq, Nat.reduceEqDiff, if_false, if_true])
        | ((first | refine hK _ ?_ | (clear hK K; first | refine hK _ ?_ | (clear hK K; first | refine hK _ ?_ | (clear hK K; first | refine hK _ ?_ | (clear hK K; refine hK _ ?_))))); clear hK K)
        | refine awp_true rfl rfl ?_
        | refine awp_false rfl rfl ?_
        | refine awp_block ?_
        | refine And.intro (by first | omega | exact trivial | rfl | assumption | (apply map_sz; intro a; simp only [go_sem]; done) | ((and_intros <;> first | omega | exact trivial | rfl | assumption | (apply map_sz; intro a; simp only [go_sem]; done) | fail); done) | fail) ?_
        | fail)
      refine ret_own (by simp only [Try.results63, resOkL, resOk, Try.ntmps63, List.toList_toArray]; decide) ?_ (by assumption) ?_ ?_
      all_goals simp only [resA, resV, Try.results63, go_sem, hne, hne', e2, hp2]
      · simp
      · simp
      · exact FrX.updn (FrX.updk hfr (by omega) _) _
theorem partsOf_tri (t : Tm) : PartsSpec' t := Tm.ind partsOf_step t
theorem partsOf_new (t : Tm) (hft : t.fits) (hsz : (parts t).length ≤ 4000000) (n' : Nm) : Tri Try.prog 63 [.nil, .d (tmDV t)] (newEff 27 n' ((parts t).map tmDV)) :=
  Tri.grown (pre := []) (fun n => by have := partsOf_tri t hft n [] (by simpa using hsz); simpa using this) n'
theorem partsOf_data (t : Tm) (hft : t.fits) (hsz : (parts t).length ≤ 4000000) : Tri Try.prog 63 [.nil, .d (tmDV t)] (pure' (.d (.sl ((parts t).map tmDV)))) := Tri.data fun n' => partsOf_new t hft hsz n'
end Go.Proofs.Ytmeekpinkfpnhaa

namespace Go.Proofs.Ytmeekpinkfpnhaa
open Go.RowKit
set_option linter.unusedSimpArgs false
set_option linter.unusedSectionVars false

set_option maxRecDepth 20000 in
theorem has_tri (l : List Int) (hl : l.length ≤ 16777216) (v : Int) : Tri Try.prog 82 [.d (.sl (l.map iD)), iA v] (pure' (bA (l.contains v))) := by
  refine tri_enter Try.func82 rfl Try.ntmps82 (by simp only [List.length_cons, List.length_nil]; omega) fun w0 h0 k hrd hwr => ?_
  repeat' (first
    | refine awp_seq_k fun K hK => ?_
    | ((first | refine awp_region_k (by kernel_rfl) fun R hR => ?_ | refine awp_draw mixed (by kernel_rfl) (by kernel_rfl) fun R hR => ?_); simp only [go_sem])
    | ((first | (refine hR _ ?_; clear hR R) | refine awp_skip ?_ | refine awp_exit ?_ | refine awp_ret ?_); try simp only [thenA, inBlockA, reduceIte, reduceCtorEq, Nat.reduceEqDiff, if_false, if_true])
    | ((first | refine hK _ ?_ | (clear hK K; first | refine hK _ ?_ | (clear hK K; first | refine hK _ ?_ | (clear hK K; first | refine hK _ ?_ | (clear hK K; refine hK _ ?_))))); clear hK K)
    | refine awp_true rfl rfl ?_
    | refine awp_false rfl rfl ?_
    | refine awp_block ?_
    | refine And.intro (by first | omega | exact trivial | rfl | assumption | (apply map_sz; intro a; simp only [go_sem]; done) | ((and_intros <;> first | omega | exact trivial | rfl | assumption | (apply map_sz; intro a; simp only [go_sem]; done) | fail); done) | fail) ?_
    | fail)
  refine awp_loop (fun σ => ∃ i : Nat, σ.t 0 = .d (.sl (l.map iD)) ∧ σ.t 1 = iA v ∧ σ.t 5 = iA i ∧ σ.h = h0 ∧ i ≤ l.length ∧ (l.drop i).contains v = l.contains v) (fun σ => l.length - (intOf' (σ.t 5)).toNat) ?_ ?_
  · refine ⟨0, ?_⟩
    simp only [go_sem, List.drop_zero]
    and_intros; all_goals try (first | rfl | omega | assumption | ((repeat (first | exact Fr.rfl' _ _ | assumption | refine Fr.updk ?_ (by omega) _)); done))
  · rintro σ ⟨i, s0, s1, s5, sh, hi, hv⟩
    have hfr : Fr k h0 σ.h := by rw [sh]; exact Fr.rfl' _ _
    rcases Nat.lt_or_ge i l.length with hlt | hge
    · have hz : (i : Int) < (l.length : Int) := by omega
      have e1 : (l.map iD).getD i default = iD l[i] := nth_map iD hlt _
      have e2 : (l.drop i).contains v = (v == l[i] || (l.drop (i + 1)).contains v) := by rw [List.drop_eq_getElem_cons hlt, List.contains_cons]
      rw [e2] at hv
      have e3 : (v == l[i]) = (l[i] == v) := by rw [Bool.eq_iff_iff, beq_iff_eq, beq_iff_eq]; exact eq_comm
      rw [e3] at hv
      cases hc : l[i] == v with
      | true =>
        rw [hc] at hv
        repeat' (first
          | refine awp_seq_k fun K hK => ?_
          | ((first | refine awp_region_k (by kernel_rfl) fun R hR => ?_ | refine awp_draw mixed (by kernel_rfl) (by kernel_rfl) fun R hR => ?_); simp only [go_sem, s0, s1, s5, hz, e1, hc, Int.toNat_natCast])
          | ((first | (refine hR _ ?_; clear hR R) | refine awp_skip ?_ | refine awp_exit ?_ | refine awp_ret ?_); try simp only [thenA, inBlockA, reduceIte, reduceCtorEq, Nat.reduceEqDiff, if_false, if_true])
          | ((first | refine hK _ ?_ | (clear hK K; first | refine hK _ ?_ | (clear hK K; first | refine hK _ ?_ | (clear hK K; first | refine hK _ ?_ | (clear hK K; refine hK _ ?_))))); clear hK K)
          | refine awp_true rfl rfl ?_
          | refine awp_false rfl rfl ?_
          | refine awp_block ?_
          | refine And.intro (by first | omega | exact trivial | rfl | assumption | (apply map_sz; intro a; simp only [go_sem]; done) | ((and_intros <;> first | omega | exact trivial | rfl | assumption | (apply map_sz; intro a; simp only [go_sem]; done) | fail); done) | fail) ?_
          | fail)
        first | refine ret_pure (by simp only [Try.results82, resOkL, resOk, Try.ntmps82, List.toList_toArray]; first | decide | (simp only [go_sem]; done) | (simp only [go_sem]; and_intros <;> first | omega | rfl | decide)) ?_ (by repeat (first | exact Fr.rfl' _ _ | assumption | refine Fr.updk ?_ (by omega) _)) | refine ret_ro (by simp only [Try.results82, resOkL, resOk, Try.ntmps82, List.toList_toArray]; first | decide | (simp only [go_sem]; done) | (simp only [go_sem]; and_intros <;> first | omega | rfl | decide)) ?_ (by repeat (first | exact Fr.rfl' _ _ | assumption | refine Fr.updk ?_ (by omega) _))
        simp only [resA, resV, Try.results82, go_sem]
        all_goals try (first | exact Co.t2 (.dat rfl) (.dat rfl) | exact Co.t3 (.dat rfl) (.dat rfl) (.dat rfl))
        exact co_b (by rw [← hv]; rfl)
      | false =>
        rw [hc] at hv
        repeat' (first
          | refine awp_seq_k fun K hK => ?_
          | ((first | refine awp_region_k (by kernel_rfl) fun R hR => ?_ | refine awp_draw mixed (by kernel_rfl) (by kernel_rfl) fun R hR => ?_); simp only [go_sem, s0, s1, s5, hz, e1, hc, Int.toNat_natCast])
          | ((first | (refine hR _ ?_; clear hR R) | refine awp_skip ?_ | refine awp_exit ?_ | refine awp_ret ?_); try simp only [thenA, inBlockA, reduceIte, reduceCtorEq, Nat.reduceEqDiff, if_false, if_true])
          | ((first | refine hK _ ?_ | (clear hK K; first | refine hK _ ?_ | (clear hK K; first | refine hK _ ?_ | (clear hK K; first | refine hK _ ?_ | (clear hK K; refine hK _ ?_))))); clear hK K)
          | refine awp_true rfl rfl ?_
          | refine awp_false rfl rfl ?_
          | refine awp_block ?_
          | refine And.intro (by first | omega | exact trivial | rfl | assumption | (apply map_sz; intro a; simp only [go_sem]; done) | ((and_intros <;> first | omega | exact trivial | rfl | assumption | (apply map_sz; intro a; simp only [go_sem]; done) | fail); done) | fail) ?_
          | fail)
        refine ⟨⟨i + 1, ?_⟩, ?_⟩
        rotate_left
        · simp only [go_sem, s0, s1, s5, sh]; omega
        simp only [go_sem, s0, s1, s5, sh]
        and_intros; all_goals try (first | rfl | omega | assumption | ((repeat (first | exact Fr.rfl' _ _ | assumption | refine Fr.updk ?_ (by omega) _)); done))
        all_goals (rw [← hv]; rfl)
    · have hz : ¬ ((i : Int) < (l.length : Int)) := by omega
      rw [List.drop_eq_nil_of_le hge] at hv
      repeat' (first
        | refine awp_seq_k fun K hK => ?_
        | ((first | refine awp_region_k (by kernel_rfl) fun R hR => ?_ | refine awp_draw mixed (by kernel_rfl) (by kernel_rfl) fun R hR => ?_); simp only [go_sem, s0, s1, s5, hz])
        | ((first | (refine hR _ ?_; clear hR R) | refine awp_skip ?_ | refine awp_exit ?_ | refine awp_ret ?_); try simp only [thenA, inBlockA, reduceIte, reduceCtorEq, Nat.reduceEqDiff, if_false, if_true])
        | ((first | refine hK _ ?_ | (clear hK K; first | refine hK _ ?_ | (clear hK K; first | refine hK _ ?_ | (clear hK K; first | refine hK _ ?_ | (clear hK K; refine hK _ ?_))))); clear hK K)
        | refine awp_true rfl rfl ?_
        | refine awp_false rfl rfl ?_
        | refine awp_block ?_
        | refine And.intro (by first | omega | exact trivial | rfl | assumption | (apply map_sz; intro a; simp only [go_sem]; done) | ((and_intros <;> first | omega | exact trivial | rfl | assumption | (apply map_sz; intro a; simp only [go_sem]; done) | fail); done) | fail) ?_
        | fail)
      first | refine ret_pure (by simp only [Try.results82, resOkL, resOk, Try.ntmps82, List.toList_toArray]; first | decide | (simp only [go_sem]; done) | (simp only [go_sem]; and_intros <;> first | omega | rfl | decide)) ?_ (by repeat (first | exact Fr.rfl' _ _ | assumption | refine Fr.updk ?_ (by omega) _)) | refine ret_ro (by simp only [Try.results82, resOkL, resOk, Try.ntmps82, List.toList_toArray]; first | decide | (simp only [go_sem]; done) | (simp only [go_sem]; and_intros <;> first | omega | rfl | decide)) ?_ (by repeat (first | exact Fr.rfl' _ _ | assumption | refine Fr.updk ?_ (by omega) _))
      simp only [resA, resV, Try.results82, go_sem]
      all_goals try (first | exact Co.t2 (.dat rfl) (.dat rfl) | exact Co.t3 (.dat rfl) (.dat rfl) (.dat rfl))
      all_goals exact co_b (by rw [← hv]; rfl)

theorem termsOf_take {c : List Lt} {i : Nat} (hi : i < c.length) : termsOf (c.take (i + 1)) = termsOf (c.take i) ++ [c[i].a, c[i].b] := by
  rw [List.take_succ_eq_append_getElem hi, termsOf, List.flatMap_append]; rfl
theorem termsOf_len (c : List Lt) : (termsOf c).length = 2 * c.length := by
  induction c with
  | nil => rfl
  | cons x c ih => simp only [termsOf, List.flatMap_cons, List.length_append, List.length_cons, List.length_nil] at ih ⊢; omega
set_option maxRecDepth 20000 in
theorem terms_new (c : List Lt) (hc : c.length ≤ 4000000) (n' : Nm) : Tri Try.prog 75 [.d (clDV c)] (newEff 27 n' ((termsOf c).map tmDV)) := by
  refine tri_enter Try.func75 rfl Try.ntmps75 (by simp only [List.length_cons, List.length_nil]; omega) fun w0 h0 k hrd hwr => ?_
  have hn' : n'.1 < k := hwr _ (List.mem_cons_self ..)
  have h0' : h0 n' = none := hrd _ (List.mem_cons_self ..)
  repeat' (first
    | refine awp_ghost (ghost_nil (i := 3) (e := 27) rfl) ?_
    | refine awp_seq_k fun K hK => ?_
    | ((first | refine awp_region_k (by kernel_rfl) fun R hR => ?_ | refine awp_draw mixed (by kernel_rfl) (by kernel_rfl) fun R hR => ?_); simp only [go_sem])
    | ((first | (refine hR _ ?_; clear hR R) | refine awp_skip ?_ | refine awp_exit ?_ | refine awp_ret ?_); try simp only [thenA, inBlockA, reduceIte, reduceCtorEq, Nat.reduceEqDiff, if_false, if_true])
    | ((first | refine hK _ ?_ | (clear hK K; first | refine hK _ ?_ | (clear hK K; first | refine hK _ ?_ | (clear hK K; first | refine hK _ ?_ | (clear hK K; refine hK _ ?_))))); clear hK K)
    | refine awp_true rfl rfl ?_
    | refine awp_false rfl rfl ?_
    | refine awp_block ?_
    | refine And.intro (by first | omega | exact trivial | rfl | assumption | (apply map_sz; intro a; simp only [go_sem]; done) | ((and_intros <;> first | omega | exact trivial | rfl | assumption | (apply map_sz; intro a; simp only [go_sem]; done) | fail); done) | fail) ?_
    | fail)
  refine awp_loop (fun σ => ∃ i : Nat, σ.t 3 = .own (k + 1 + 1, 0) ((termsOf (c.take i)).map tmDV) ∧ σ.t 6 = .d (clDV c) ∧ σ.t 7 = iA c.length ∧ σ.t 8 = iA i ∧ σ.h (k + 1 + 1, 0) = some (.perm 27 (termsOf (c.take i)).length) ∧ Fr k h0 σ.h ∧ k + 1 + 1 + 1 ≤ σ.k ∧ i ≤ c.length) (fun σ => c.length - (intOf' (σ.t 8)).toNat) ?_ ?_
  · refine ⟨0, ?_⟩
    simp only [go_sem, List.take_zero]
    and_intros; all_goals try (first | rfl | omega | assumption | ((repeat (first | exact Fr.rfl' _ _ | assumption | refine Fr.updk ?_ (by omega) _)); done))
  · rintro σ ⟨i, s3, s6, s7, s8, sh, hF, hk, hi⟩
    have ht := termsOf_len (c.take i)
    rw [List.length_take] at ht
    have hne := ltne (show k + 1 + 1 < σ.k by omega)
    rcases Nat.lt_or_ge i c.length with hlt | hge
    · have hz : (i : Int) < (c.length : Int) := by omega
      have e1 : (c.map ltDV).getD i default = ltDV c[i] := nth_map ltDV hlt _
      have htk : (termsOf (c.take i)).map tmDV ++ [tmDV c[i].a, tmDV c[i].b] = (termsOf (c.take (i + 1))).map tmDV := by rw [termsOf_take hlt]; simp
      repeat' (first
        | refine awp_seq_k fun K hK => ?_
        | ((first | refine awp_region_k (by kernel_rfl) fun R hR => ?_ | refine awp_draw mixed (by kernel_rfl) (by kernel_rfl) fun R hR => ?_); simp only [go_sem, s3, s6, s7, s8, sh, hz, e1, hne, List.length_map, Int.toNat_natCast])
        | ((first | (refine hR _ ?_; clear hR R) | refine awp_skip ?_ | refine awp_exit ?_ | refine awp_ret ?_); try simp only [thenA, inBlockA, reduceIte, reduceCtorEq, Nat.reduceEqDiff, if_false, if_true])
        | ((first | refine hK _ ?_ | (clear hK K; first | refine hK _ ?_ | (clear hK K; first | refine hK _ ?_ | (clear hK K; first | refine hK _ ?_ | (clear hK K; refine hK _ ?_))))); clear hK K)
        | refine awp_true rfl rfl ?_
        | refine awp_false rfl rfl ?_
        | refine awp_block ?_
        | refine And.intro (by first | omega | exact trivial | rfl | assumption | (apply map_sz; intro a; simp only [go_sem]; done) | ((and_intros <;> first | omega | exact trivial | rfl | assumption | (apply map_sz; intro a; simp only [go_sem]; done) | fail); done) | fail) ?_
        | fail)
      refine ⟨⟨i + 1, ?_⟩, ?_⟩
      rotate_left
      · simp only [go_sem, s3, s6, s7, s8, sh, hne, htk, List.length_map]; omega
      simp only [go_sem, s3, s6, s7, s8, sh, hne, htk, List.length_map]
      and_intros; all_goals try (first | rfl | omega | assumption | ((repeat (first | exact Fr.rfl' _ _ | assumption | refine Fr.updk ?_ (by omega) _)); done))
    · have hz : ¬ ((i : Int) < (c.length : Int)) := by omega
      obtain rfl : i = c.length := by omega
      rw [List.take_length] at s3 sh
      repeat' (first
        | refine awp_seq_k fun K hK => ?_
        | ((first | refine awp_region_k (by kernel_rfl) fun R hR => ?_ | refine awp_draw mixed (by kernel_rfl) (by kernel_rfl) fun R hR => ?_); simp only [go_sem, s3, s7, s8, sh, hz, hne])
        | ((first | (refine hR _ ?_; clear hR R) | refine awp_skip ?_ | refine awp_exit ?_ | refine awp_ret ?_); try simp only [thenA, inBlockA, reduceIte, reduceCtorEq, Nat.reduceEqDiff, if_false, if_true])
        | ((first | refine hK _ ?_ | (clear hK K; first | refine hK _ ?_ | (clear hK K; first | refine hK _ ?_ | (clear hK K; first | refine hK _ ?_ | (clear hK K; refine hK _ ?_))))); clear hK K)
        | refine awp_true rfl rfl ?_
        | refine awp_false rfl rfl ?_
        | refine awp_block ?_
        | refine And.intro (by first | omega | exact trivial | rfl | assumption | (apply map_sz; intro a; simp only [go_sem]; done) | ((and_intros <;> first | omega | exact trivial | rfl | assumption | (apply map_sz; intro a; simp only [go_sem]; done) | fail); done) | fail) ?_
        | fail)
      refine ret_new (by simp only [Try.results75, resOkL, resOk, Try.ntmps75, List.toList_toArray]; first | decide | (simp only [go_sem, hne, sh]; done) | (simp only [go_sem, hne, sh]; and_intros <;> first | omega | rfl | decide)) (by simp only [resA, resV, Try.results75, go_sem, hne, sh]; try rfl) ?_ hn' h0' ?_ (by repeat (first | exact Fr.rfl' _ _ | assumption | refine Fr.updk ?_ (by omega) _)) <;> simp only [go_sem, List.length_map, hne, sh] <;> first | rfl | omega
theorem terms_tri (c : List Lt) (hc : c.length ≤ 4000000) : Tri Try.prog 75 [.d (clDV c)] (pure' (.d (.sl ((termsOf c).map tmDV)))) := Tri.data fun n' => terms_new c hc n'
set_option maxRecDepth 20000 in
theorem termsOf_new (c : List Lt) (hc : c.length ≤ 4000000) (n' : Nm) : Tri Try.prog 25 [.d (clDV c)] (newEff 27 n' ((termsOf c).map tmDV)) := by
  refine tri_enter Try.func25 rfl Try.ntmps25 (by simp only [List.length_cons, List.length_nil]; omega) fun w0 h0 k hrd hwr => ?_
  have hn' : n'.1 < k := hwr _ (List.mem_cons_self ..)
  have h0' : h0 n' = none := hrd _ (List.mem_cons_self ..)
  repeat' (first
    | refine awp_ghost (ghost_nil (i := 3) (e := 27) rfl) ?_
    | refine awp_seq_k fun K hK => ?_
    | ((first | refine awp_region_k (by kernel_rfl) fun R hR => ?_ | refine awp_draw mixed (by kernel_rfl) (by kernel_rfl) fun R hR => ?_); simp only [go_sem])
    | ((first | (refine hR _ ?_; clear hR R) | refine awp_skip ?_ | refine awp_exit ?_ | refine awp_ret ?_); try simp only [thenA, inBlockA, reduceIte, reduceCtorEq, Nat.reduceEqDiff, if_false, if_true])
    | ((first | refine hK _ ?_ | (clear hK K; first | refine hK _ ?_ | (clear hK K; first | refine hK _ ?_ | (clear hK K; first | refine hK _ ?_ | (clear hK K; refine hK _ ?_))))); clear hK K)
    | refine awp_true rfl rfl ?_
    | refine awp_false rfl rfl ?_
    | refine awp_block ?_
    | refine And.intro (by first | omega | exact trivial | rfl | assumption | (apply map_sz; intro a; simp only [go_sem]; done) | ((and_intros <;> first | omega | exact trivial | rfl | assumption | (apply map_sz; intro a; simp only [go_sem]; done) | fail); done) | fail) ?_
    | fail)
  refine awp_loop (fun σ => ∃ i : Nat, σ.t 3 = .own (k + 1 + 1, 0) ((termsOf (c.take i)).map tmDV) ∧ σ.t 0 = .d (clDV c) ∧ σ.t 4 = iA i ∧ σ.h (k + 1 + 1, 0) = some (.perm 27 (termsOf (c.take i)).length) ∧ Fr k h0 σ.h ∧ k + 1 + 1 + 1 ≤ σ.k ∧ i ≤ c.length) (fun σ => c.length - (intOf' (σ.t 4)).toNat) ?_ ?_
  · refine ⟨0, ?_⟩
    simp only [go_sem, List.take_zero]
    and_intros; all_goals try (first | rfl | omega | assumption | ((repeat (first | exact Fr.rfl' _ _ | assumption | refine Fr.updk ?_ (by omega) _)); done))
  · rintro σ ⟨i, s3, s0, s4, sh, hF, hk, hi⟩
    have ht := termsOf_len (c.take i)
    rw [List.length_take] at ht
    have hne := ltne (show k + 1 + 1 < σ.k by omega)
    rcases Nat.lt_or_ge i c.length with hlt | hge
    · have hz : (i : Int) < (c.length : Int) := by omega
      have e1 : (c.map ltDV).getD i default = ltDV c[i] := nth_map ltDV hlt _
      have htk : (termsOf (c.take i)).map tmDV ++ [tmDV c[i].a, tmDV c[i].b] = (termsOf (c.take (i + 1))).map tmDV := by rw [termsOf_take hlt]; simp
      repeat' (first
        | refine awp_seq_k fun K hK => ?_
        | ((first | refine awp_region_k (by kernel_rfl) fun R hR => ?_ | refine awp_draw mixed (by kernel_rfl) (by kernel_rfl) fun R hR => ?_); simp only [go_sem, s3, s0, s4, sh, hz, e1, hne, List.length_map, Int.toNat_natCast])
        | ((first | (refine hR _ ?_; clear hR R) | refine awp_skip ?_ | refine awp_exit ?_ | refine awp_ret ?_); try simp only [thenA, inBlockA, reduceIte, reduceCtorEq, Nat.reduceEqDiff, if_false, if_true])
        | ((first | refine hK _ ?_ | (clear hK K; first | refine hK _ ?_ | (clear hK K; first | refine hK _ ?_ | (clear hK K; first | refine hK _ ?_ | (clear hK K; refine hK _ ?_))))); clear hK K)
        | refine awp_true rfl rfl ?_
        | refine awp_false rfl rfl ?_
        | refine awp_block ?_
        | refine And.intro (by first | omega | exact trivial | rfl | assumption | (apply map_sz; intro a; simp only [go_sem]; done) | ((and_intros <;> first | omega | exact trivial | rfl | assumption | (apply map_sz; intro a; simp only [go_sem]; done) | fail); done) | fail) ?_
        | fail)
      refine ⟨⟨i + 1, ?_⟩, ?_⟩
      rotate_left
      · simp only [go_sem, s3, s0, s4, sh, hne, htk, List.length_map]; omega
      simp only [go_sem, s3, s0, s4, sh, hne, htk, List.length_map]
      and_intros; all_goals try (first | rfl | omega | assumption | ((repeat (first | exact Fr.rfl' _ _ | assumption | refine Fr.updk ?_ (by omega) _)); done))
    · have hz : ¬ ((i : Int) < (c.length : Int)) := by omega
      obtain rfl : i = c.length := by omega
      rw [List.take_length] at s3 sh
      repeat' (first
        | refine awp_seq_k fun K hK => ?_
        | ((first | refine awp_region_k (by kernel_rfl) fun R hR => ?_ | refine awp_draw mixed (by kernel_rfl) (by kernel_rfl) fun R hR => ?_); simp only [go_sem, s3, s0, s4, sh, hz, hne])
        | ((first | (refine hR _ ?_; clear hR R) | refine awp_skip ?_ | refine awp_exit ?_ | refine awp_ret ?_); try simp only [thenA, inBlockA, reduceIte, reduceCtorEq, Nat.reduceEqDiff, if_false, if_true])
        | ((first | refine hK _ ?_ | (clear hK K; first | refine hK _ ?_ | (clear hK K; first | refine hK _ ?_ | (clear hK K; first | refine hK _ ?_ | (clear hK K; refine hK _ ?_))))); clear hK K)
        | refine awp_true rfl rfl ?_
        | refine awp_false rfl rfl ?_
        | refine awp_block ?_
        | refine And.intro (by first | omega | exact trivial | rfl | assumption | (apply map_sz; intro a; simp only [go_sem]; done) | ((and_intros <;> first | omega | exact trivial | rfl | assumption | (apply map_sz; intro a; simp only [go_sem]; done) | fail); done) | fail) ?_
        | fail)
      refine ret_new (by simp only [Try.results25, resOkL, resOk, Try.ntmps25, List.toList_toArray]; first | decide | (simp only [go_sem, hne, sh]; done) | (simp only [go_sem, hne, sh]; and_intros <;> first | omega | rfl | decide)) (by simp only [resA, resV, Try.results25, go_sem, hne, sh]; try rfl) ?_ hn' h0' ?_ (by repeat (first | exact Fr.rfl' _ _ | assumption | refine Fr.updk ?_ (by omega) _)) <;> simp only [go_sem, List.length_map, hne, sh] <;> first | rfl | omega
theorem termsOf_tri (c : List Lt) (hc : c.length ≤ 4000000) : Tri Try.prog 25 [.d (clDV c)] (pure' (.d (.sl ((termsOf c).map tmDV)))) := Tri.data fun n' => termsOf_new c hc n'
end Go.Proofs.Ytmeekpinkfpnhaa
