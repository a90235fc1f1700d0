/- slices.EqualFunc of terms, with a function that changes objects. Maps: what is worked out of them. subst.Meet. subst.Made. term.Stands. superposeref.PartsOf. Clauses: superposeref.Has, FirstVars, TermsOf, CheckClause, CheckClauses; clause.Terms, clause.Check, text.Right. -/
import Derived.Test.YtmeekpinkfpnhaaB05
import Derived.Test.YtmeekpinkfpnhaaB06
set_option linter.unusedSimpArgs false
set_option linter.unusedSectionVars false
set_option linter.unusedVariables false
set_option linter.unnecessarySimpa false
set_option linter.all false
namespace Go.Proofs.Ytmeekpinkfpnhaa
open Go.RowKit
def eqS {S : Type} (step : Tm → Tm → S → Bool × S) : List Tm → List Tm → S → Bool × S
  | x :: xs, y :: ys, s => if (step x y s).1 = true then eqS step xs ys (step x y s).2 else (false, (step x y s).2)
  | _, _, s => (true, s)
theorem eqS_go {S : Type} {step : Tm → Tm → S → Bool × S} {xs ys : List Tm} {i : Nat} (hi : i < xs.length) (hi' : i < ys.length) {s : S} (h : (step xs[i] ys[i] s).1 = true) : eqS step (xs.drop i) (ys.drop i) s = eqS step (xs.drop (i + 1)) (ys.drop (i + 1)) (step xs[i] ys[i] s).2 := by
  rw [List.drop_eq_getElem_cons hi, List.drop_eq_getElem_cons hi', eqS, if_pos h]
theorem eqS_stop {S : Type} {step : Tm → Tm → S → Bool × S} {xs ys : List Tm} {i : Nat} (hi : i < xs.length) (hi' : i < ys.length) {s : S} (h : (step xs[i] ys[i] s).1 = false) : eqS step (xs.drop i) (ys.drop i) s = (false, (step xs[i] ys[i] s).2) := by
  rw [List.drop_eq_getElem_cons hi, List.drop_eq_getElem_cons hi', eqS, if_neg (by rw [h]; simp)]
section
variable {S : Type} (O : S → Nm → Ob) (N : List Nm) (g : FuncId) (caps : List AV) (step : Tm → Tm → S → Bool × S) (hN : ∀ s (k : Nat), (∀ n ∈ N, n.1 < k) → Cl k N (O s)) (hg : enterOk Try.prog g)
include hN hg
set_option maxHeartbeats 1000000 in
set_option maxRecDepth 20000 in
theorem equalF_tri (xs ys : List Tm) (hl : xs.length ≤ 4000000) (hdo : ∀ x ∈ xs, ∀ y ∈ ys, ∀ s, Tri Try.prog g ([.d (tmDV x), .d (tmDV y)] ++ caps) (stE N (O s) (O (step x y s).2) (bA (step x y s).1))) (s : S) (r : Bool × S) (hr : r = if xs.length = ys.length then eqS step xs ys s else (false, s)) :
    Tri Try.prog 138 [.d (.sl (xs.map tmDV)), .d (.sl (ys.map tmDV)), .fn (.func g) [] caps] (stE N (O s) (O r.2) (bA r.1)) := by
  refine tri_enter_st Try.func138 rfl Try.ntmps138 (by simp only [List.length_cons, List.length_nil]; omega) fun w0 h0 k hag => ?_
  have hlt0 : ∀ n ∈ N, n.1 < k := fun n hn => (hag.get n hn).1
  cases h1 : ((xs.length : Int) != (ys.length : Int)) with
  | true =>
    rw [if_neg (by simp at h1; omega)] at hr
    subst hr
    have hcl := hN s k hlt0
    repeat' (first | refine awp_seq_k fun K hK => ?_ | ((first | refine awp_region_k (by kernel_rfl) fun R hR => ?_ | refine awp_draw mixed (by kernel_rfl) (by kernel_rfl) fun R hR => ?_); simp only [go_sem, h1]) | ((first | (refine hR _ ?_; clear hR R) | refine awp_skip ?_ | refine awp_exit ?_ | refine awp_ret ?_); try simp only [thenA, inBlockA, reduceIte, reduceCtorEq, Nat.reduceEqDiff, if_false, if_true]) | ((first | refine hK _ ?_ | (clear hK K; first | refine hK _ ?_ | (clear hK K; first | refine hK _ ?_ | (clear hK K; first | refine hK _ ?_ | (clear hK K; refine hK _ ?_))))); clear hK K) | refine awp_true rfl rfl ?_ | refine awp_false rfl rfl ?_ | refine awp_block ?_ | refine And.intro (by first | ((repeat' first | omega | exact trivial | rfl | assumption | (intro a e; subst e; rfl) | exact map_sz fun a => (by simp only [go_sem]) | refine And.intro ?_ ?_); done) | fail) ?_ | fail)
    refine ret_st (by simp only [Try.results138, resOkL, resOk, Try.ntmps138, List.toList_toArray]; first | decide | (simp only [go_sem]; done) | (simp only [go_sem]; and_intros <;> first | omega | rfl | decide)) ?_ (by repeat (first | assumption | exact Ag.stN (by assumption) _ _ | refine Ag.updk ?_ (by omega) _)) (by repeat (first | exact FrN.rfl' _ _ _ | assumption | refine FrN.updk ?_ (by omega) _ | refine FrN.stH ?_ _)) (by assumption)
    simp only [resA, resV, Try.results138, go_sem]
    all_goals try (first | exact .dat rfl | exact Co.t2 (.dat rfl) (.dat rfl) | exact Co.t3 (.dat rfl) (.dat rfl) (.dat rfl))
  | false =>
    have hll : xs.length = ys.length := by simp at h1; omega
    rw [if_pos hll] at hr
    repeat' (first | refine awp_seq_k fun K hK => ?_ | ((first | refine awp_region_k (by kernel_rfl) fun R hR => ?_ | refine awp_draw mixed (by kernel_rfl) (by kernel_rfl) fun R hR => ?_); simp only [go_sem, h1]) | ((first | (refine hR _ ?_; clear hR R) | refine awp_skip ?_ | refine awp_exit ?_ | refine awp_ret ?_); try simp only [thenA, inBlockA, reduceIte, reduceCtorEq, Nat.reduceEqDiff, if_false, if_true]) | ((first | refine hK _ ?_ | (clear hK K; first | refine hK _ ?_ | (clear hK K; first | refine hK _ ?_ | (clear hK K; first | refine hK _ ?_ | (clear hK K; refine hK _ ?_))))); clear hK K) | refine awp_true rfl rfl ?_ | refine awp_false rfl rfl ?_ | refine awp_block ?_ | refine And.intro (by first | ((repeat' first | omega | exact trivial | rfl | assumption | (intro a e; subst e; rfl) | exact map_sz fun a => (by simp only [go_sem]) | refine And.intro ?_ ?_); done) | fail) ?_ | fail)
    refine awp_loop (fun σ => ∃ (i : Nat) (si : S), σ.t 1 = .d (.sl (ys.map tmDV)) ∧ σ.t 2 = .fn (.func g) [] caps ∧ σ.t 15 = .d (.sl (xs.map tmDV)) ∧ σ.t 16 = iA xs.length ∧ σ.t 17 = iA i ∧ Ag k N (O si) σ.h ∧ FrN k N h0 σ.h ∧ k < σ.k ∧ i ≤ xs.length ∧ eqS step (xs.drop i) (ys.drop i) si = r) (fun σ => xs.length - (intOf' (σ.t 17)).toNat) ?_ ?_
    · refine ⟨0, s, ?_⟩
      simp only [go_sem, List.drop_zero]
      and_intros; all_goals try (first | rfl | omega | assumption | ((repeat (first | exact Fr.rfl' _ _ | assumption | refine Fr.updk ?_ (by omega) _)); done))
      all_goals first | exact hr.symm | exact FrN.rfl' _ _ _
    · rintro σ ⟨i, si, s1, s2, s15, s16, s17, hA, hF, hk, hi, hv⟩
      rcases Nat.lt_or_ge i xs.length with hlt | hge
      · have hlt' : i < ys.length := by omega
        have hz : (i : Int) < (xs.length : Int) := by omega
        have hz' : (i : Int) < (ys.length : Int) := by omega
        have e1 : (xs.map tmDV).getD i default = tmDV xs[i] := nth_map tmDV hlt _
        have e2 : (ys.map tmDV).getD i default = tmDV ys[i] := nth_map tmDV hlt' _
        have hN1 := notN hag (k' := σ.k + 1) (by omega)
        have hN2 := notN hag (k' := σ.k + 1 + 1) (by omega)
        have hT := hdo _ (List.getElem_mem hlt) _ (List.getElem_mem hlt') si
        have hcl := hN (step xs[i] ys[i] si).2 k hlt0
        cases h2 : (step xs[i] ys[i] si).1 with
        | true =>
          rw [h2] at hT
          rw [eqS_go hlt hlt' h2] at hv
          repeat' (first | refine awp_seq_k fun K hK => ?_ | ((first | refine awp_region_k (by kernel_rfl) fun R hR => ?_ | refine awp_draw mixed (by kernel_rfl) (by kernel_rfl) fun R hR => ?_); simp only [go_sem, s1, s2, s15, s16, s17, hz, hz', e1, e2, hN1, hN2, Int.toNat_natCast]) | ((first | (refine hR _ ?_; clear hR R) | refine awp_skip ?_ | refine awp_exit ?_ | refine awp_ret ?_); try simp only [thenA, inBlockA, reduceIte, reduceCtorEq, Nat.reduceEqDiff, if_false, if_true]) | ((first | refine hK _ ?_ | (clear hK K; first | refine hK _ ?_ | (clear hK K; first | refine hK _ ?_ | (clear hK K; first | refine hK _ ?_ | (clear hK K; refine hK _ ?_))))); clear hK K) | refine awp_true rfl rfl ?_ | refine awp_false rfl rfl ?_ | refine awp_block ?_ | ((first | refine CallK.vchg rfl (hg) (hT) ?_ (by assumption) (by repeat (first | exact Fr.rfl' _ _ | assumption | refine Fr.updk ?_ (by omega) _)) ?_ | refine CallD.vchg rfl (hg) (hT) ?_ (by assumption) (by repeat (first | exact Fr.rfl' _ _ | assumption | refine Fr.updk ?_ (by omega) _)) (by assumption) ?_); (focus first | ((repeat (first | exact trivial | refine ⟨(by first | exact Or.inl rfl | exact Or.inr rfl), ?_⟩)); done) | (simp only [coL, AV.dat, true_or, or_true, AV.d.injEq, go_sem]; done)); simp only [go_sem, s1, s2, s15, s16, s17, hz, hz', e1, e2, hN1, hN2, Int.toNat_natCast]) | refine And.intro (by first | ((repeat' first | omega | exact trivial | rfl | assumption | (intro a e; subst e; rfl) | exact map_sz fun a => (by simp only [go_sem]) | refine And.intro ?_ ?_); done) | fail) ?_ | fail)
          refine ⟨⟨i + 1, (step xs[i] ys[i] si).2, ?_⟩, ?_⟩
          · simp only [go_sem, s1, s2, s15, s16, s17]
            and_intros; all_goals try (first | rfl | omega | assumption | ((repeat (first | exact Fr.rfl' _ _ | assumption | refine Fr.updk ?_ (by omega) _)); done))
            · exact (by repeat (first | assumption | exact Ag.stN (by assumption) _ _ | refine Ag.updk ?_ (by omega) _))
            · exact (by repeat (first | exact FrN.rfl' _ _ _ | assumption | refine FrN.updk ?_ (by omega) _ | refine FrN.stH ?_ _))
          · simp only [go_sem, s17]; omega
        | false =>
          rw [h2] at hT
          rw [eqS_stop hlt hlt' h2] at hv
          subst hv
          dsimp only
          repeat' (first | refine awp_seq_k fun K hK => ?_ | ((first | refine awp_region_k (by kernel_rfl) fun R hR => ?_ | refine awp_draw mixed (by kernel_rfl) (by kernel_rfl) fun R hR => ?_); simp only [go_sem, s1, s2, s15, s16, s17, hz, hz', e1, e2, hN1, hN2, Int.toNat_natCast]) | ((first | (refine hR _ ?_; clear hR R) | refine awp_skip ?_ | refine awp_exit ?_ | refine awp_ret ?_); try simp only [thenA, inBlockA, reduceIte, reduceCtorEq, Nat.reduceEqDiff, if_false, if_true]) | ((first | refine hK _ ?_ | (clear hK K; first | refine hK _ ?_ | (clear hK K; first | refine hK _ ?_ | (clear hK K; first | refine hK _ ?_ | (clear hK K; refine hK _ ?_))))); clear hK K) | refine awp_true rfl rfl ?_ | refine awp_false rfl rfl ?_ | refine awp_block ?_ | ((first | refine CallK.vchg rfl (hg) (hT) ?_ (by assumption) (by repeat (first | exact Fr.rfl' _ _ | assumption | refine Fr.updk ?_ (by omega) _)) ?_ | refine CallD.vchg rfl (hg) (hT) ?_ (by assumption) (by repeat (first | exact Fr.rfl' _ _ | assumption | refine Fr.updk ?_ (by omega) _)) (by assumption) ?_); (focus first | ((repeat (first | exact trivial | refine ⟨(by first | exact Or.inl rfl | exact Or.inr rfl), ?_⟩)); done) | (simp only [coL, AV.dat, true_or, or_true, AV.d.injEq, go_sem]; done)); simp only [go_sem, s1, s2, s15, s16, s17, hz, hz', e1, e2, hN1, hN2, Int.toNat_natCast]) | refine And.intro (by first | ((repeat' first | omega | exact trivial | rfl | assumption | (intro a e; subst e; rfl) | exact map_sz fun a => (by simp only [go_sem]) | refine And.intro ?_ ?_); done) | fail) ?_ | fail)
          refine ret_st (by simp only [Try.results138, resOkL, resOk, Try.ntmps138, List.toList_toArray]; first | decide | (simp only [go_sem]; done) | (simp only [go_sem]; and_intros <;> first | omega | rfl | decide)) ?_ (by repeat (first | assumption | exact Ag.stN (by assumption) _ _ | refine Ag.updk ?_ (by omega) _)) (by repeat (first | exact FrN.rfl' _ _ _ | assumption | refine FrN.updk ?_ (by omega) _ | refine FrN.stH ?_ _)) (by assumption)
          simp only [resA, resV, Try.results138, go_sem]
          all_goals try (first | exact .dat rfl | exact Co.t2 (.dat rfl) (.dat rfl) | exact Co.t3 (.dat rfl) (.dat rfl) (.dat rfl))
      · have hz : ¬ ((i : Int) < (xs.length : Int)) := by omega
        have hv' : r = (true, si) := by rw [← hv, List.drop_eq_nil_of_le hge]; rfl
        have hcl := hN si k hlt0
        repeat' (first | refine awp_seq_k fun K hK => ?_ | ((first | refine awp_region_k (by kernel_rfl) fun R hR => ?_ | refine awp_draw mixed (by kernel_rfl) (by kernel_rfl) fun R hR => ?_); simp only [go_sem, s16, s17, hz]) | ((first | (refine hR _ ?_; clear hR R) | refine awp_skip ?_ | refine awp_exit ?_ | refine awp_ret ?_); try simp only [thenA, inBlockA, reduceIte, reduceCtorEq, Nat.reduceEqDiff, if_false, if_true]) | ((first | refine hK _ ?_ | (clear hK K; first | refine hK _ ?_ | (clear hK K; first | refine hK _ ?_ | (clear hK K; first | refine hK _ ?_ | (clear hK K; refine hK _ ?_))))); clear hK K) | refine awp_true rfl rfl ?_ | refine awp_false rfl rfl ?_ | refine awp_block ?_ | refine And.intro (by first | ((repeat' first | omega | exact trivial | rfl | assumption | (intro a e; subst e; rfl) | exact map_sz fun a => (by simp only [go_sem]) | refine And.intro ?_ ?_); done) | fail) ?_ | fail)
        rw [hv']
        dsimp only
        refine ret_st (by simp only [Try.results138, resOkL, resOk, Try.ntmps138, List.toList_toArray]; first | decide | (simp only [go_sem]; done) | (simp only [go_sem]; and_intros <;> first | omega | rfl | decide)) ?_ (by repeat (first | assumption | exact Ag.stN (by assumption) _ _ | refine Ag.updk ?_ (by omega) _)) (by repeat (first | exact FrN.rfl' _ _ _ | assumption | refine FrN.updk ?_ (by omega) _ | refine FrN.stH ?_ _)) (by assumption)
        simp only [resA, resV, Try.results138, go_sem]
        all_goals try (first | exact .dat rfl | exact Co.t2 (.dat rfl) (.dat rfl) | exact Co.t3 (.dat rfl) (.dat rfl) (.dat rfl))
end
theorem meetL_eqS (xs ys : List Tm) (b : Bs) : meetL xs ys b = eqS meet xs ys b := by
  induction xs generalizing ys b with
  | nil => cases ys <;> rfl
  | cons x xs ih =>
    cases ys with
    | nil => rfl
    | cons y ys => rw [meetL, eqS, ih]
end Go.Proofs.Ytmeekpinkfpnhaa
namespace Go.Proofs.Ytmeekpinkfpnhaa
open Go.RowKit
attribute [go_sem] effLook okLook effPut okPut askM mapEs isMapO isNilM isI64
@[go_sem] theorem mapTii : mapT Try.prog 104 = some 3 := by kernel_rfl
@[go_sem] theorem zeroDi : zeroD Try.prog 3 = .d (.v (.int .i64 0)) := by kernel_rfl
theorem getM_put (k k' : Int) (x : DV) : ∀ es : List (Int × DV), getM k' (putM k x es) = if k' = k then some x else getM k' es
  | [] => by
    unfold putM
    simp only [getM]
  | p :: m => by
    unfold putM
    by_cases h : k = p.1
    · rw [if_pos h]
      simp only [getM]
      by_cases h2 : k' = k
      · rw [if_pos h2, if_pos h2]
      · rw [if_neg h2, if_neg h2, if_neg (by rw [← h]; exact h2)]
    · rw [if_neg h]
      simp only [getM]
      rw [getM_put k k' x m]
      by_cases h2 : k' = p.1
      · rw [if_pos h2, if_pos h2, if_neg (by rintro rfl; exact h h2)]
      · rw [if_neg h2, if_neg h2]
end Go.Proofs.Ytmeekpinkfpnhaa
namespace Go.Proofs.Ytmeekpinkfpnhaa
open Go.RowKit
@[go_sem] theorem mapTit : mapT Try.prog 142 = some 27 := by kernel_rfl
@[go_sem] theorem zeroDt : zeroD Try.prog 27 = .st [.d (.v (.int .i64 0)), .d (.v (.int .i64 0)), .nil] := by kernel_rfl
def bsE (b : Bs) : List (Int × DV) := b.map fun p => (p.1, tmDV p.2)
theorem getM_bs (v : Int) (b : Bs) : getM v (bsE b) = (lookB v b).map tmDV := by
  induction b with
  | nil => rfl
  | cons p b ih =>
    simp only [bsE, List.map_cons, getM, lookB] at ih ⊢
    by_cases h : v = p.1
    · rw [if_pos h, if_pos h]; rfl
    · rw [if_neg h, if_neg h]; exact ih
theorem putM_bs {v : Int} {b : Bs} (h : lookB v b = none) (t : Tm) : putM v (tmDV t) (bsE b) = bsE (b ++ [(v, t)]) := by
  induction b with
  | nil => rfl
  | cons p b ih =>
    rw [lookB] at h
    by_cases hv : v = p.1
    · rw [if_pos hv] at h; cases h
    · rw [if_neg hv] at h
      have := ih h
      simp only [bsE, List.map_cons, List.cons_append, putM] at this ⊢
      rw [if_neg hv, this]
def mtO (b : Bs) (_ : Nm) : Ob := .map (bsE b)
def mtO2 (bx : Nm) (mm : Nm) (b : Bs) (x : Nm) : Ob := if x = bx then .cells 142 [.map mm] else .map (bsE b)
theorem mtO_cl (mm : Nm) (b : Bs) (k : Nat) : Cl k [mm] (mtO b) := by
  intro n _ x hx; simp [mtO, Ob.names] at hx
theorem mtO2_cl (bx mm : Nm) (b : Bs) (k : Nat) (h : ∀ n ∈ [bx, mm], n.1 < k) : Cl k [bx, mm] (mtO2 bx mm b) := by
  intro n _ x hx
  unfold mtO2 at hx
  split at hx
  · simp [Ob.names, namesL, AV.names] at hx; rw [hx]; exact h mm (by simp)
  · simp [Ob.names] at hx
def MeetSpec (p : Tm) : Prop := ∀ (t : Tm) (mm : Nm) (b : Bs), Tri Try.prog 141 [.map mm, .d (tmDV p), .d (tmDV t)] (stE [mm] (mtO b) (mtO (meet p t b).2) (bA (meet p t b).1))
set_option maxRecDepth 20000 in
theorem meet1_tri {p : Tm} (ih : MeetSpec p) (t : Tm) {bx mm : Nm} (hbm : bx ≠ mm) (b : Bs) : Tri Try.prog 158 [.d (tmDV p), .d (tmDV t), .ptr bx 0] (stE [bx, mm] (mtO2 bx mm b) (mtO2 bx mm (meet p t b).2) (bA (meet p t b).1)) := by
  refine tri_enter_st Try.func158 rfl Try.ntmps158 (by simp only [List.length_cons, List.length_nil]; omega) fun w0 h0 k hag => ?_
  obtain ⟨hb, eb⟩ := hag.get bx (by simp)
  obtain ⟨hm, em⟩ := hag.get mm (by simp)
  have e1 : mtO2 bx mm b bx = .cells 142 [.map mm] := by simp [mtO2]
  have e2 : mtO2 bx mm b mm = .map (bsE b) := by simp [mtO2, Ne.symm hbm]
  rw [e1] at eb
  rw [e2] at em
  have nb := nmne hb
  have hA : Ag k [mm] (mtO b) h0 := ⟨fun n hn => by simp at hn; subst hn; exact ⟨hm, em⟩⟩
  repeat' (first | refine awp_seq_k fun K hK => ?_ | ((first | refine awp_region_k (by kernel_rfl) fun R hR => ?_ | refine awp_draw mixed (by kernel_rfl) (by kernel_rfl) fun R hR => ?_); simp only [go_sem, eb, nb]) | ((first | (refine hR _ ?_; clear hR R) | refine awp_skip ?_ | refine awp_exit ?_ | refine awp_ret ?_); try simp only [thenA, inBlockA, reduceIte, reduceCtorEq, Nat.reduceEqDiff, if_false, if_true]) | ((first | refine hK _ ?_ | (clear hK K; first | refine hK _ ?_ | (clear hK K; first | refine hK _ ?_ | (clear hK K; first | refine hK _ ?_ | (clear hK K; refine hK _ ?_))))); clear hK K) | refine awp_true rfl rfl ?_ | refine awp_false rfl rfl ?_ | refine awp_block ?_ | ((first | refine CallK.chg (enter141) (ih t mm b) ?_ (by assumption) (by repeat (first | exact Fr.rfl' _ _ | assumption | refine Fr.updk ?_ (by omega) _)) ?_ | refine CallD.chg (enter141) (ih t mm b) ?_ (by assumption) (by repeat (first | exact Fr.rfl' _ _ | assumption | refine Fr.updk ?_ (by omega) _)) (by assumption) ?_); (focus first | ((repeat (first | exact trivial | refine ⟨(by first | exact Or.inl rfl | exact Or.inr rfl), ?_⟩)); done) | (simp only [coL, AV.dat, true_or, or_true, AV.d.injEq, go_sem]; done)); simp only [go_sem, eb, nb]) | refine And.intro (by first | ((repeat' first | omega | exact trivial | rfl | assumption | (intro a e; subst e; rfl) | exact map_sz fun a => (by simp only [go_sem]) | refine And.intro ?_ ?_); done) | fail) ?_ | fail)
  refine ret_st (by simp only [Try.results158, resOkL, resOk, Try.ntmps158, List.toList_toArray]; first | decide | (simp only [go_sem]; done) | (simp only [go_sem]; and_intros <;> first | omega | rfl | decide)) (by simp only [resA, resV, Try.results158, go_sem]; first | exact .dat rfl | exact Co.t2 (.dat rfl) (.dat rfl) | exact Co.t3 (.dat rfl) (.dat rfl) (.dat rfl)) ?_ ?_ ?_
  · refine ⟨fun n hn => ⟨(hag.get n hn).1, ?_⟩⟩
    simp only [List.mem_cons, List.not_mem_nil, or_false] at hn
    rcases hn with h | h
    · rw [h]
      have e3 : mtO2 bx mm (meet p t b).2 bx = .cells 142 [.map mm] := by simp [mtO2]
      rw [e3]
      simp only [go_sem, nb, eb, hbm]
    · rw [h]
      have e3 : mtO2 bx mm (meet p t b).2 mm = .map (bsE (meet p t b).2) := by simp [mtO2, Ne.symm hbm]
      rw [e3]
      simp only [go_sem, mtO]
  · intro x hx hxn
    have hxm : x ∉ [mm] := fun h => hxn (by simp at h; simp [h])
    show stH _ _ _ x = _
    rw [stH_get, if_neg hxm]
    exact ((by repeat (first | exact FrN.rfl' _ _ _ | assumption | refine FrN.updk ?_ (by omega) _ | refine FrN.stH ?_ _)) : FrN k [bx, mm] h0 _) x hx hxn
  · exact mtO2_cl bx mm _ k fun n hn => (hag.get n hn).1
set_option maxHeartbeats 2000000 in
set_option maxRecDepth 20000 in
theorem meet_step (p : Tm) (hp : p.us.length ≤ 4000000) (ih : ∀ u ∈ p.us, MeetSpec u) : MeetSpec p := by
  intro t mm b
  rw [meet_eq]
  refine tri_enter_st Try.func141 rfl Try.ntmps141 (by simp only [List.length_cons, List.length_nil]; omega) fun w0 h0 k hag => ?_
  obtain ⟨hm, em⟩ := hag.get mm (by simp)
  have em : h0 mm = some (.map (bsE b)) := em
  have nm := nmne hm
  cases hv : decide (p.v > 0) with
  | true =>
    have hv' : p.v > 0 := by simpa using hv
    rw [if_pos hv']
    cases hb : lookB p.v b with
    | some u =>
      have hg : getM p.v (bsE b) = some (tmDV u) := by rw [getM_bs, hb]; rfl
      have hcl := mtO_cl mm b k
      dsimp only
      repeat' (first | refine awp_seq_k fun K hK => ?_ | ((first | refine awp_region_k (by kernel_rfl) fun R hR => ?_ | refine awp_draw mixed (by kernel_rfl) (by kernel_rfl) fun R hR => ?_); simp only [go_sem, em, nm, hv, hg, Option.isSome_some]) | ((first | (refine hR _ ?_; clear hR R) | refine awp_skip ?_ | refine awp_exit ?_ | refine awp_ret ?_); try simp only [thenA, inBlockA, reduceIte, reduceCtorEq, Nat.reduceEqDiff, if_false, if_true]) | ((first | refine hK _ ?_ | (clear hK K; first | refine hK _ ?_ | (clear hK K; first | refine hK _ ?_ | (clear hK K; first | refine hK _ ?_ | (clear hK K; refine hK _ ?_))))); clear hK K) | refine awp_true rfl rfl ?_ | refine awp_false rfl rfl ?_ | refine awp_block ?_ | ((first | refine CallK.pure (enter116) (same_tri u t) ?_ ?_ | refine CallD.pure (enter116) (same_tri u t) ?_ ?_); (focus first | ((repeat (first | exact trivial | refine ⟨(by first | exact Or.inl rfl | exact Or.inr rfl), ?_⟩)); done) | (simp only [coL, AV.dat, true_or, or_true, AV.d.injEq, go_sem]; done)); simp only [go_sem, em, nm, hv, hg, Option.isSome_some]) | refine And.intro (by first | ((repeat' first | omega | exact trivial | rfl | assumption | (intro a e; subst e; rfl) | exact map_sz fun a => (by simp only [go_sem]) | refine And.intro ?_ ?_); done) | fail) ?_ | fail)
      refine ret_st (by simp only [Try.results141, resOkL, resOk, Try.ntmps141, List.toList_toArray]; first | decide | (simp only [go_sem]; done) | (simp only [go_sem]; and_intros <;> first | omega | rfl | decide)) ?_ (by repeat (first | assumption | exact Ag.stN (by assumption) _ _ | refine Ag.updk ?_ (by omega) _)) (by repeat (first | exact FrN.rfl' _ _ _ | assumption | refine FrN.updk ?_ (by omega) _ | refine FrN.stH ?_ _)) (by assumption)
      simp only [resA, resV, Try.results141, go_sem]
      all_goals try (first | exact .dat rfl | exact Co.t2 (.dat rfl) (.dat rfl) | exact Co.t3 (.dat rfl) (.dat rfl) (.dat rfl))
    | none =>
      have hg : getM p.v (bsE b) = none := by rw [getM_bs, hb]; rfl
      have hpm := putM_bs hb t
      have hcl := mtO_cl mm (b ++ [(p.v, t)]) k
      dsimp only
      repeat' (first | refine awp_seq_k fun K hK => ?_ | ((first | refine awp_region_k (by kernel_rfl) fun R hR => ?_ | refine awp_draw mixed (by kernel_rfl) (by kernel_rfl) fun R hR => ?_); simp only [go_sem, em, nm, hv, hg, hpm, Option.isSome_none, AV.toD, Option.getD_none]) | ((first | (refine hR _ ?_; clear hR R) | refine awp_skip ?_ | refine awp_exit ?_ | refine awp_ret ?_); try simp only [thenA, inBlockA, reduceIte, reduceCtorEq, Nat.reduceEqDiff, if_false, if_true]) | ((first | refine hK _ ?_ | (clear hK K; first | refine hK _ ?_ | (clear hK K; first | refine hK _ ?_ | (clear hK K; first | refine hK _ ?_ | (clear hK K; refine hK _ ?_))))); clear hK K) | refine awp_true rfl rfl ?_ | refine awp_false rfl rfl ?_ | refine awp_block ?_ | refine And.intro (by first | ((repeat' first | omega | exact trivial | rfl | assumption | (intro a e; subst e; rfl) | exact map_sz fun a => (by simp only [go_sem]) | refine And.intro ?_ ?_); done) | fail) ?_ | fail)
      refine ret_st (by simp only [Try.results141, resOkL, resOk, Try.ntmps141, List.toList_toArray]; first | decide | (simp only [go_sem]; done) | (simp only [go_sem]; and_intros <;> first | omega | rfl | decide)) (by simp only [resA, resV, Try.results141, go_sem]; first | exact .dat rfl | exact Co.t2 (.dat rfl) (.dat rfl) | exact Co.t3 (.dat rfl) (.dat rfl) (.dat rfl)) ?_ ?_ ?_
      · refine ⟨fun n hn => ⟨(hag.get n hn).1, ?_⟩⟩
        simp only [List.mem_cons, List.not_mem_nil, or_false] at hn
        subst hn
        simp only [go_sem, nm, mtO]
      · refine FrN.updn (by repeat (first | exact FrN.rfl' _ _ _ | assumption | refine FrN.updk ?_ (by omega) _ | refine FrN.stH ?_ _)) (by simp) _
      · exact hcl
  | false =>
    have hv' : ¬ p.v > 0 := by simpa using hv
    rw [if_neg hv']
    cases h1 : t.v == 0 with
    | false =>
      have hcl := mtO_cl mm b k
      rw [if_neg (by intro h; simp at h1; exact h1 h.1)]
      repeat' (first | refine awp_seq_k fun K hK => ?_ | ((first | refine awp_region_k (by kernel_rfl) fun R hR => ?_ | refine awp_draw mixed (by kernel_rfl) (by kernel_rfl) fun R hR => ?_); simp only [go_sem, em, nm, hv, h1]) | ((first | (refine hR _ ?_; clear hR R) | refine awp_skip ?_ | refine awp_exit ?_ | refine awp_ret ?_); try simp only [thenA, inBlockA, reduceIte, reduceCtorEq, Nat.reduceEqDiff, if_false, if_true]) | ((first | refine hK _ ?_ | (clear hK K; first | refine hK _ ?_ | (clear hK K; first | refine hK _ ?_ | (clear hK K; first | refine hK _ ?_ | (clear hK K; refine hK _ ?_))))); clear hK K) | refine awp_true rfl rfl ?_ | refine awp_false rfl rfl ?_ | refine awp_block ?_ | refine And.intro (by first | ((repeat' first | omega | exact trivial | rfl | assumption | (intro a e; subst e; rfl) | exact map_sz fun a => (by simp only [go_sem]) | refine And.intro ?_ ?_); done) | fail) ?_ | fail)
      refine ret_st (by simp only [Try.results141, resOkL, resOk, Try.ntmps141, List.toList_toArray]; first | decide | (simp only [go_sem]; done) | (simp only [go_sem]; and_intros <;> first | omega | rfl | decide)) ?_ (by repeat (first | assumption | exact Ag.stN (by assumption) _ _ | refine Ag.updk ?_ (by omega) _)) (by repeat (first | exact FrN.rfl' _ _ _ | assumption | refine FrN.updk ?_ (by omega) _ | refine FrN.stH ?_ _)) (by assumption)
      simp only [resA, resV, Try.results141, go_sem]
      all_goals try (first | exact .dat rfl | exact Co.t2 (.dat rfl) (.dat rfl) | exact Co.t3 (.dat rfl) (.dat rfl) (.dat rfl))
    | true =>
      cases h2 : p.f == t.f with
      | false =>
        have hcl := mtO_cl mm b k
        rw [if_neg (by intro h; simp at h2; exact h2 h.2.1)]
        repeat' (first | refine awp_seq_k fun K hK => ?_ | ((first | refine awp_region_k (by kernel_rfl) fun R hR => ?_ | refine awp_draw mixed (by kernel_rfl) (by kernel_rfl) fun R hR => ?_); simp only [go_sem, em, nm, hv, h1, h2]) | ((first | (refine hR _ ?_; clear hR R) | refine awp_skip ?_ | refine awp_exit ?_ | refine awp_ret ?_); try simp only [thenA, inBlockA, reduceIte, reduceCtorEq, Nat.reduceEqDiff, if_false, if_true]) | ((first | refine hK _ ?_ | (clear hK K; first | refine hK _ ?_ | (clear hK K; first | refine hK _ ?_ | (clear hK K; first | refine hK _ ?_ | (clear hK K; refine hK _ ?_))))); clear hK K) | refine awp_true rfl rfl ?_ | refine awp_false rfl rfl ?_ | refine awp_block ?_ | refine And.intro (by first | ((repeat' first | omega | exact trivial | rfl | assumption | (intro a e; subst e; rfl) | exact map_sz fun a => (by simp only [go_sem]) | refine And.intro ?_ ?_); done) | fail) ?_ | fail)
        refine ret_st (by simp only [Try.results141, resOkL, resOk, Try.ntmps141, List.toList_toArray]; first | decide | (simp only [go_sem]; done) | (simp only [go_sem]; and_intros <;> first | omega | rfl | decide)) ?_ (by repeat (first | assumption | exact Ag.stN (by assumption) _ _ | refine Ag.updk ?_ (by omega) _)) (by repeat (first | exact FrN.rfl' _ _ _ | assumption | refine FrN.updk ?_ (by omega) _ | refine FrN.stH ?_ _)) (by assumption)
        simp only [resA, resV, Try.results141, go_sem]
        all_goals try (first | exact .dat rfl | exact Co.t2 (.dat rfl) (.dat rfl) | exact Co.t3 (.dat rfl) (.dat rfl) (.dat rfl))
      | true =>
        have hm2 : mm ≠ (k, 0) := fun e => by rw [e] at hm; simp at hm
        obtain ⟨r, hr⟩ : ∃ r : Bool × Bs, r = if p.us.length = t.us.length then eqS meet p.us t.us b else (false, b) := ⟨_, rfl⟩
        have hr' : (if t.v = 0 ∧ p.f = t.f ∧ p.us.length = t.us.length then meetL p.us t.us b else (false, b)) = r := by
          rw [hr, ← meetL_eqS]
          by_cases h3 : p.us.length = t.us.length
          · rw [if_pos h3, if_pos ⟨by simpa using h1, by simpa using h2, h3⟩]
          · rw [if_neg h3, if_neg (fun h => h3 h.2.2)]
        rw [hr']
        have he := equalF_tri (mtO2 (k, 0) mm) [(k, 0), mm] 158 [.ptr (k, 0) 0] meet (mtO2_cl (k, 0) mm) (enter158) p.us t.us hp (fun x hx y _ s => meet1_tri (ih x hx) y (Ne.symm hm2) s) b r hr
        have hcl := mtO_cl mm r.2 k
        have hA2 : ∀ h : Heap, h (k, 0) = some (.cells 142 [.map mm]) → h mm = some (.map (bsE b)) → Ag (k + 1) [(k, 0), mm] (mtO2 (k, 0) mm b) h := fun h e1 e2 => ⟨fun n hn => by
          simp only [List.mem_cons, List.not_mem_nil, or_false] at hn
          rcases hn with h3 | h3
          · rw [h3]; exact ⟨Nat.lt_succ_self k, by rw [e1]; simp [mtO2]⟩
          · rw [h3]; exact ⟨Nat.lt_succ_of_lt hm, by rw [e2]; simp [mtO2, hm2]⟩⟩
        repeat' (first | refine awp_seq_k fun K hK => ?_ | ((first | refine awp_region_k (by kernel_rfl) fun R hR => ?_ | refine awp_draw mixed (by kernel_rfl) (by kernel_rfl) fun R hR => ?_); simp only [go_sem, em, nm, hv, h1, h2]) | ((first | (refine hR _ ?_; clear hR R) | refine awp_skip ?_ | refine awp_exit ?_ | refine awp_ret ?_); try simp only [thenA, inBlockA, reduceIte, reduceCtorEq, Nat.reduceEqDiff, if_false, if_true]) | ((first | refine hK _ ?_ | (clear hK K; first | refine hK _ ?_ | (clear hK K; first | refine hK _ ?_ | (clear hK K; first | refine hK _ ?_ | (clear hK K; refine hK _ ?_))))); clear hK K) | refine awp_true rfl rfl ?_ | refine awp_false rfl rfl ?_ | refine awp_block ?_ | ((first | refine CallK.chg (enter138) (he) ?_ (hA2 _ (by simp only [go_sem, nm]) (by simp only [go_sem, em, nm])) (Fr.rfl' _ _) ?_ | refine CallD.chg (enter138) (he) ?_ (hA2 _ (by simp only [go_sem, nm]) (by simp only [go_sem, em, nm])) (Fr.rfl' _ _) (by first | assumption | exact List.cons_ne_nil _ _) ?_); (focus first | ((repeat (first | exact trivial | refine ⟨(by first | exact Or.inl rfl | exact Or.inr rfl), ?_⟩)); done) | (simp only [coL, AV.dat, true_or, or_true, AV.d.injEq, go_sem]; done)); simp only [go_sem, em, nm, hv, h1, h2]) | refine And.intro (by first | ((repeat' first | omega | exact trivial | rfl | assumption | (intro a e; subst e; rfl) | exact map_sz fun a => (by simp only [go_sem]) | refine And.intro ?_ ?_); done) | fail) ?_ | fail)
        refine ret_st (by simp only [Try.results141, resOkL, resOk, Try.ntmps141, List.toList_toArray]; first | decide | (simp only [go_sem]; done) | (simp only [go_sem]; and_intros <;> first | omega | rfl | decide)) (by simp only [resA, resV, Try.results141, go_sem]; first | exact .dat rfl | exact Co.t2 (.dat rfl) (.dat rfl) | exact Co.t3 (.dat rfl) (.dat rfl) (.dat rfl)) ?_ ?_ ?_
        · refine ⟨fun n hn => ⟨(hag.get n hn).1, ?_⟩⟩
          simp only [List.mem_cons, List.not_mem_nil, or_false] at hn
          subst hn
          have e3 : mtO2 (k, 0) n r.2 n = .map (bsE r.2) := by simp [mtO2, hm2]
          simp only [go_sem, mtO, e3]
        · intro x hx hxn
          have hxm : x ∉ [(k, 0), mm] := fun h => by
            simp at h hxn
            rcases h with h | h
            · rw [h] at hx; simp at hx
            · exact hxn h
          show stH _ _ _ x = _
          rw [stH_get, if_neg hxm]
          exact ((by repeat (first | exact FrN.rfl' _ _ _ | assumption | refine FrN.updk ?_ (by omega) _ | refine FrN.stH ?_ _)) : FrN k [mm] h0 _) x hx hxn
        · exact hcl
end Go.Proofs.Ytmeekpinkfpnhaa
namespace Go.Proofs.Ytmeekpinkfpnhaa
open Go.RowKit
abbrev bsO (b mm : Nm) (bs : Bs) : List (Nm × Ob) := [(b, .cells 142 [.map mm]), (mm, .map (bsE bs))]
theorem roBs {b mm : Nm} {bs : Bs} {k : Nat} {h : Heap} (h1 : b.1 < k) (h2 : mm.1 < k) (e1 : h b = some (.cells 142 [.map mm])) (e2 : h mm = some (.map (bsE bs))) : RoOK k (bsO b mm bs) h := ⟨fun x hx => by
  simp only [bsO, List.mem_cons, List.not_mem_nil, or_false] at hx
  rcases hx with rfl | rfl
  · exact ⟨h1, e1⟩
  · exact ⟨h2, e2⟩⟩
set_option maxHeartbeats 1000000 in
set_option maxRecDepth 20000 in
theorem made1_tri (b mm : Nm) (bs : Bs) (hbs : ∀ p ∈ bs, p.2.size ≤ 4000000) (x : Tm) : Tri Try.prog 139 [.d (tmDV x), .ptr b 0] (rdE (bsO b mm bs) (.tup [.d (tmDV (madeS bs x).1), bA (madeS bs x).2])) := by
  have hin : ∀ (bs : Bs) (u : Tm), lookB x.v bs = some u → ∃ p ∈ bs, p.2 = u := by
    intro bs u h
    induction bs with
    | nil => cases h
    | cons p bs ih =>
      rw [lookB] at h
      by_cases hv : x.v = p.1
      · rw [if_pos hv] at h; cases h; exact ⟨p, by simp, rfl⟩
      · rw [if_neg hv] at h
        obtain ⟨q, hq, e⟩ := ih h
        exact ⟨q, by simp [hq], e⟩
  refine tri_enter_ro Try.func139 rfl Try.ntmps139 (by simp only [List.length_cons, List.length_nil]; omega) fun w0 h0 k hro => ?_
  obtain ⟨n1, eb⟩ := hro.get _ (List.mem_cons_self ..)
  obtain ⟨n2, em⟩ := hro.get _ (List.mem_cons_of_mem _ (List.mem_cons_self ..))
  have q1 := nmne n1
  have q2 := nmne n2
  unfold madeS
  cases hb : lookB x.v bs with
  | none =>
    have hg : getM x.v (bsE bs) = none := by rw [getM_bs, hb]; rfl
    dsimp only
    repeat' (first | refine awp_seq_k fun K hK => ?_ | ((first | refine awp_region_k (by kernel_rfl) fun R hR => ?_ | refine awp_draw mixed (by kernel_rfl) (by kernel_rfl) fun R hR => ?_); simp only [go_sem, eb, em, q1, q2, hg, Option.isSome_none, AV.toD, Option.getD_none]) | ((first | (refine hR _ ?_; clear hR R) | refine awp_skip ?_ | refine awp_exit ?_ | refine awp_ret ?_); try simp only [thenA, inBlockA, reduceIte, reduceCtorEq, Nat.reduceEqDiff, if_false, if_true]) | ((first | refine hK _ ?_ | (clear hK K; first | refine hK _ ?_ | (clear hK K; first | refine hK _ ?_ | (clear hK K; first | refine hK _ ?_ | (clear hK K; refine hK _ ?_))))); clear hK K) | refine awp_true rfl rfl ?_ | refine awp_false rfl rfl ?_ | refine awp_block ?_ | refine And.intro (by first | ((repeat' first | omega | exact trivial | rfl | assumption | (intro a e; subst e; rfl) | exact map_sz fun a => (by simp only [go_sem]) | refine And.intro ?_ ?_); done) | fail) ?_ | fail)
    (first | refine ret_pure ?_ ?_ ?_ | refine ret_ro ?_ ?_ ?_); focus exact (by simp only [Try.results139, resOkL, resOk, Try.ntmps139, List.toList_toArray]; first | decide | (simp only [go_sem]; done) | (simp only [go_sem]; and_intros <;> first | omega | rfl | decide))
    rotate_left; focus exact (by repeat (first | exact Fr.rfl' _ _ | assumption | refine Fr.updk ?_ (by omega) _))
    simp only [resA, resV, Try.results139, go_sem]
    all_goals try (first | exact Co.t2 (.dat rfl) (.dat rfl) | exact Co.t3 (.dat rfl) (.dat rfl) (.dat rfl))
    exact .t2 (co_tm' rfl) (.dat rfl)
  | some u =>
    have hg : getM x.v (bsE bs) = some (tmDV u) := by rw [getM_bs, hb]; rfl
    obtain ⟨p, hp, hu⟩ := hin bs u hb
    have hus : u.size ≤ 4000000 := by rw [← hu]; exact hbs p hp
    dsimp only
    cases hv : decide (x.v > 0) with
    | false =>
      rw [if_neg (by simpa using hv)]
      repeat' (first | refine awp_seq_k fun K hK => ?_ | ((first | refine awp_region_k (by kernel_rfl) fun R hR => ?_ | refine awp_draw mixed (by kernel_rfl) (by kernel_rfl) fun R hR => ?_); simp only [go_sem, eb, em, q1, q2, hg, hv, Option.isSome_some]) | ((first | (refine hR _ ?_; clear hR R) | refine awp_skip ?_ | refine awp_exit ?_ | refine awp_ret ?_); try simp only [thenA, inBlockA, reduceIte, reduceCtorEq, Nat.reduceEqDiff, if_false, if_true]) | ((first | refine hK _ ?_ | (clear hK K; first | refine hK _ ?_ | (clear hK K; first | refine hK _ ?_ | (clear hK K; first | refine hK _ ?_ | (clear hK K; refine hK _ ?_))))); clear hK K) | refine awp_true rfl rfl ?_ | refine awp_false rfl rfl ?_ | refine awp_block ?_ | refine And.intro (by first | ((repeat' first | omega | exact trivial | rfl | assumption | (intro a e; subst e; rfl) | exact map_sz fun a => (by simp only [go_sem]) | refine And.intro ?_ ?_); done) | fail) ?_ | fail)
      (first | refine ret_pure ?_ ?_ ?_ | refine ret_ro ?_ ?_ ?_); focus exact (by simp only [Try.results139, resOkL, resOk, Try.ntmps139, List.toList_toArray]; first | decide | (simp only [go_sem]; done) | (simp only [go_sem]; and_intros <;> first | omega | rfl | decide))
      rotate_left; focus exact (by repeat (first | exact Fr.rfl' _ _ | assumption | refine Fr.updk ?_ (by omega) _))
      simp only [resA, resV, Try.results139, go_sem]
      all_goals try (first | exact Co.t2 (.dat rfl) (.dat rfl) | exact Co.t3 (.dat rfl) (.dat rfl) (.dat rfl))
      exact .t2 (co_tm' rfl) (.dat rfl)
    | true =>
      rw [if_pos (by simpa using hv)]
      repeat' (first | refine awp_seq_k fun K hK => ?_ | ((first | refine awp_region_k (by kernel_rfl) fun R hR => ?_ | refine awp_draw mixed (by kernel_rfl) (by kernel_rfl) fun R hR => ?_); simp only [go_sem, eb, em, q1, q2, hg, hv, Option.isSome_some]) | ((first | (refine hR _ ?_; clear hR R) | refine awp_skip ?_ | refine awp_exit ?_ | refine awp_ret ?_); try simp only [thenA, inBlockA, reduceIte, reduceCtorEq, Nat.reduceEqDiff, if_false, if_true]) | ((first | refine hK _ ?_ | (clear hK K; first | refine hK _ ?_ | (clear hK K; first | refine hK _ ?_ | (clear hK K; first | refine hK _ ?_ | (clear hK K; refine hK _ ?_))))); clear hK K) | refine awp_true rfl rfl ?_ | refine awp_false rfl rfl ?_ | refine awp_block ?_ | ((first | refine CallK.pure (enter98) (copied_tri u hus) ?_ ?_ | refine CallD.pure (enter98) (copied_tri u hus) ?_ ?_); (focus first | ((repeat (first | exact trivial | refine ⟨(by first | exact Or.inl rfl | exact Or.inr rfl), ?_⟩)); done) | (simp only [coL, AV.dat, true_or, or_true, AV.d.injEq, go_sem]; done)); simp only [go_sem, eb, em, q1, q2, hg, hv, Option.isSome_some]) | refine And.intro (by first | ((repeat' first | omega | exact trivial | rfl | assumption | (intro a e; subst e; rfl) | exact map_sz fun a => (by simp only [go_sem]) | refine And.intro ?_ ?_); done) | fail) ?_ | fail)
      (first | refine ret_pure ?_ ?_ ?_ | refine ret_ro ?_ ?_ ?_); focus exact (by simp only [Try.results139, resOkL, resOk, Try.ntmps139, List.toList_toArray]; first | decide | (simp only [go_sem]; done) | (simp only [go_sem]; and_intros <;> first | omega | rfl | decide))
      rotate_left; focus exact (by repeat (first | exact Fr.rfl' _ _ | assumption | refine Fr.updk ?_ (by omega) _))
      simp only [resA, resV, Try.results139, go_sem]
      all_goals try (first | exact Co.t2 (.dat rfl) (.dat rfl) | exact Co.t3 (.dat rfl) (.dat rfl) (.dat rfl))
      all_goals exact .t2 (co_tm' rfl) (.dat rfl)
set_option maxRecDepth 20000 in
theorem made_tri (mm : Nm) (bs : Bs) (hbs : ∀ p ∈ bs, p.2.size ≤ 4000000) (t : Tm) (ht : t.size ≤ 4000000) : Tri Try.prog 121 [.map mm, .d (tmDV t)] (rdE [(mm, .map (bsE bs))] (.d (tmDV (mapM (madeS bs) t)))) := by
  refine tri_enter_ro Try.func121 rfl Try.ntmps121 (by simp only [List.length_cons, List.length_nil]; omega) fun w0 h0 k hro => ?_
  obtain ⟨n2, em⟩ := hro.get _ (List.mem_cons_self ..)
  have q2 := nmne n2
  have h := mapped_tri 139 [.ptr (k, 0) 0] (bsO (k, 0) mm bs) (madeS bs) (enter139) t ht (fun x _ => made1_tri (k, 0) mm bs hbs x)
  repeat' (first | refine awp_seq_k fun K hK => ?_ | ((first | refine awp_region_k (by kernel_rfl) fun R hR => ?_ | refine awp_draw mixed (by kernel_rfl) (by kernel_rfl) fun R hR => ?_); simp only [go_sem, em, q2]) | ((first | (refine hR _ ?_; clear hR R) | refine awp_skip ?_ | refine awp_exit ?_ | refine awp_ret ?_); try simp only [thenA, inBlockA, reduceIte, reduceCtorEq, Nat.reduceEqDiff, if_false, if_true]) | ((first | refine hK _ ?_ | (clear hK K; first | refine hK _ ?_ | (clear hK K; first | refine hK _ ?_ | (clear hK K; first | refine hK _ ?_ | (clear hK K; refine hK _ ?_))))); clear hK K) | refine awp_true rfl rfl ?_ | refine awp_false rfl rfl ?_ | refine awp_block ?_ | ((first | refine CallK.look (enter128) (h) ?_ (roBs (k := k + 1) (Nat.lt_succ_self k) (Nat.lt_succ_of_lt n2) (by simp only [go_sem, q2]) (by simp only [go_sem, em, q2])) (Fr.rfl' _ _) ?_ | refine CallD.look (enter128) (h) ?_ (roBs (k := k + 1) (Nat.lt_succ_self k) (Nat.lt_succ_of_lt n2) (by simp only [go_sem, q2]) (by simp only [go_sem, em, q2])) (Fr.rfl' _ _) (by first | assumption | exact List.cons_ne_nil _ _) ?_); (focus first | ((repeat (first | exact trivial | refine ⟨(by first | exact Or.inl rfl | exact Or.inr rfl), ?_⟩)); done) | (simp only [coL, AV.dat, true_or, or_true, AV.d.injEq, go_sem]; done)); simp only [go_sem, em, q2]) | refine And.intro (by first | ((repeat' first | omega | exact trivial | rfl | assumption | (intro a e; subst e; rfl) | exact map_sz fun a => (by simp only [go_sem]) | refine And.intro ?_ ?_); done) | fail) ?_ | fail)
  (first | refine ret_pure ?_ ?_ ?_ | refine ret_ro ?_ ?_ ?_); focus exact (by simp only [Try.results121, resOkL, resOk, Try.ntmps121, List.toList_toArray]; first | decide | (simp only [go_sem]; done) | (simp only [go_sem]; and_intros <;> first | omega | rfl | decide))
  rotate_left; focus exact (by repeat (first | exact Fr.rfl' _ _ | assumption | refine Fr.updk ?_ (by omega) _))
  simp only [resA, resV, Try.results121, go_sem]
  all_goals try (first | exact Co.t2 (.dat rfl) (.dat rfl) | exact Co.t3 (.dat rfl) (.dat rfl) (.dat rfl))
  all_goals exact co_tm' rfl
end Go.Proofs.Ytmeekpinkfpnhaa
namespace Go.Proofs.Ytmeekpinkfpnhaa
open Go.RowKit
theorem preL_flat (us : List Tm) : preL us = us.flatMap pre := by
  induction us with
  | nil => rfl
  | cons x xs ih => rw [preL, List.flatMap_cons, ih]
theorem sizes_append (a b : List Tm) : Tm.size.sizes (a ++ b) = Tm.size.sizes a + Tm.size.sizes b := by
  induction a with
  | nil => simp [Tm.size.sizes]
  | cons x xs ih => simp [Tm.size.sizes, ih, Nat.add_assoc]
theorem sizes_take (l : List Tm) (i : Nat) : Tm.size.sizes (l.take i) ≤ Tm.size.sizes l := by
  have h := sizes_append (l.take i) (l.drop i)
  rw [List.take_append_drop] at h
  omega
def stO (b m : Nm) (s : List Int) (x : Nm) : Ob := if x = b then .cells 22 [.own m (s.map iD)] else .perm 3 s.length
def stStep (x : Tm) (s : List Int) : Bool × List Int := (true, addV s x)
mutual
theorem walk_stands : ∀ (t : Tm) (s : List Int), walkS stStep t s = (true, addVs s (pre t))
  | .mk v f us, s => by
    rw [walkS, pre]
    simp only [stStep, if_true]
    exact walkL_stands us (addV s (.mk v f us))
theorem walkL_stands : ∀ (us : List Tm) (s : List Int), walkL stStep us s = (true, addVs s (preL us))
  | [], s => rfl
  | x :: xs, s => by
    rw [walkL, preL, addVs_append, walk_stands x s]
    simp only [if_true]
    exact walkL_stands xs _
end
theorem stO_b (b m : Nm) (s : List Int) : stO b m s b = .cells 22 [.own m (s.map iD)] := by simp [stO]
theorem stO_m {b m : Nm} (h : b ≠ m) (s : List Int) : stO b m s m = .perm 3 s.length := by simp [stO, Ne.symm h]
theorem stO_cl (b m : Nm) (s : List Int) (k : Nat) (h : ∀ n ∈ [b, m], n.1 < k) : Cl k [b, m] (stO b m s) := by
  intro n _ x hx
  unfold stO at hx
  split at hx
  · simp [Ob.names, namesL, AV.names] at hx; rw [hx]; exact h m (by simp)
  · simp [Ob.names] at hx
set_option maxRecDepth 20000 in
theorem stands1_tri {b m : Nm} (hbm : b ≠ m) (s : List Int) (hs : s.length ≤ 16000000) (pl : List Int) (x : Tm) : Tri Try.prog 112 [.d (.sl (pl.map iD)), .d (tmDV x), .ptr b 0] (stE [b, m] (stO b m s) (stO b m (addV s x)) (bA true)) := by
  refine tri_enter_st Try.func112 rfl Try.ntmps112 (by simp only [List.length_cons, List.length_nil]; omega) fun w0 h0 k hag => ?_
  obtain ⟨hb, eb⟩ := hag.get b (by simp)
  obtain ⟨hm, em⟩ := hag.get m (by simp)
  rw [stO_b] at eb
  rw [stO_m hbm] at em
  have nb := nmne hb
  have nm := nmne hm
  have h1 : (b = m) = False := eq_false hbm
  have h2 : (m = b) = False := eq_false hbm.symm
  cases hv : decide (x.v > 0) with
  | false =>
    have hadd : addV s x = s := by unfold addV; rw [if_neg (by simp at hv; omega)]
    repeat' (first | refine awp_seq_k fun K hK => ?_ | ((first | refine awp_region_k (by kernel_rfl) fun R hR => ?_ | refine awp_draw mixed (by kernel_rfl) (by kernel_rfl) fun R hR => ?_); simp only [go_sem, eb, em, nb, nm, h1, h2, hv]) | ((first | (refine hR _ ?_; clear hR R) | refine awp_skip ?_ | refine awp_exit ?_ | refine awp_ret ?_); try simp only [thenA, inBlockA, reduceIte, reduceCtorEq, Nat.reduceEqDiff, if_false, if_true]) | ((first | refine hK _ ?_ | (clear hK K; first | refine hK _ ?_ | (clear hK K; first | refine hK _ ?_ | (clear hK K; first | refine hK _ ?_ | (clear hK K; refine hK _ ?_))))); clear hK K) | refine awp_true rfl rfl ?_ | refine awp_false rfl rfl ?_ | refine awp_block ?_ | refine And.intro (by first | ((repeat' first | omega | exact trivial | rfl | assumption | (intro a e; subst e; rfl) | exact map_sz fun a => (by simp only [go_sem]) | refine And.intro ?_ ?_); done) | fail) ?_ | fail)
    refine ret_st (by simp only [Try.results112, resOkL, resOk, Try.ntmps112, List.toList_toArray]; first | decide | (simp only [go_sem]; done) | (simp only [go_sem]; and_intros <;> first | omega | rfl | decide)) (by simp only [resA, resV, Try.results112, go_sem]; first | exact .dat rfl | exact Co.t2 (.dat rfl) (.dat rfl) | exact Co.t3 (.dat rfl) (.dat rfl) (.dat rfl)) ?_ ?_ ?_
    · rw [hadd]; exact (by repeat (first | assumption | exact Ag.stN (by assumption) _ _ | refine Ag.updk ?_ (by omega) _))
    · exact (by repeat (first | exact FrN.rfl' _ _ _ | assumption | refine FrN.updk ?_ (by omega) _ | refine FrN.stH ?_ _))
    · exact stO_cl b m _ k fun n hn => (hag.get n hn).1
  | true =>
    cases hc : s.contains x.v with
    | true =>
      have hadd : addV s x = s := by unfold addV; rw [if_neg]; rintro ⟨_, h⟩; rw [hc] at h; cases h
      repeat' (first | refine awp_seq_k fun K hK => ?_ | ((first | refine awp_region_k (by kernel_rfl) fun R hR => ?_ | refine awp_draw mixed (by kernel_rfl) (by kernel_rfl) fun R hR => ?_); simp only [go_sem, eb, em, nb, nm, h1, h2, hv, hc]) | ((first | (refine hR _ ?_; clear hR R) | refine awp_skip ?_ | refine awp_exit ?_ | refine awp_ret ?_); try simp only [thenA, inBlockA, reduceIte, reduceCtorEq, Nat.reduceEqDiff, if_false, if_true]) | ((first | refine hK _ ?_ | (clear hK K; first | refine hK _ ?_ | (clear hK K; first | refine hK _ ?_ | (clear hK K; first | refine hK _ ?_ | (clear hK K; refine hK _ ?_))))); clear hK K) | refine awp_true rfl rfl ?_ | refine awp_false rfl rfl ?_ | refine awp_block ?_ | ((first | refine CallK.pure (enter113) (contains_tri s (by omega) x.v) ?_ ?_ | refine CallD.pure (enter113) (contains_tri s (by omega) x.v) ?_ ?_); (focus first | ((repeat (first | exact trivial | refine ⟨(by first | exact Or.inl rfl | exact Or.inr rfl), ?_⟩)); done) | (simp only [coL, AV.dat, true_or, or_true, AV.d.injEq, go_sem]; done)); simp only [go_sem, eb, em, nb, nm, h1, h2, hv, hc]) | refine And.intro (by first | ((repeat' first | omega | exact trivial | rfl | assumption | (intro a e; subst e; rfl) | exact map_sz fun a => (by simp only [go_sem]) | refine And.intro ?_ ?_); done) | fail) ?_ | fail)
      refine ret_st (by simp only [Try.results112, resOkL, resOk, Try.ntmps112, List.toList_toArray]; first | decide | (simp only [go_sem]; done) | (simp only [go_sem]; and_intros <;> first | omega | rfl | decide)) (by simp only [resA, resV, Try.results112, go_sem]; first | exact .dat rfl | exact Co.t2 (.dat rfl) (.dat rfl) | exact Co.t3 (.dat rfl) (.dat rfl) (.dat rfl)) ?_ ?_ ?_
      · rw [hadd]; exact (by repeat (first | assumption | exact Ag.stN (by assumption) _ _ | refine Ag.updk ?_ (by omega) _))
      · exact (by repeat (first | exact FrN.rfl' _ _ _ | assumption | refine FrN.updk ?_ (by omega) _ | refine FrN.stH ?_ _))
      · exact stO_cl b m _ k fun n hn => (hag.get n hn).1
    | false =>
      have hadd : addV s x = s ++ [x.v] := by unfold addV; rw [if_pos ⟨by simpa using hv, hc⟩]
      repeat' (first | refine awp_seq_k fun K hK => ?_ | ((first | refine awp_region_k (by kernel_rfl) fun R hR => ?_ | refine awp_draw mixed (by kernel_rfl) (by kernel_rfl) fun R hR => ?_); simp only [go_sem, eb, em, nb, nm, h1, h2, hv, hc, List.length_map]) | ((first | (refine hR _ ?_; clear hR R) | refine awp_skip ?_ | refine awp_exit ?_ | refine awp_ret ?_); try simp only [thenA, inBlockA, reduceIte, reduceCtorEq, Nat.reduceEqDiff, if_false, if_true]) | ((first | refine hK _ ?_ | (clear hK K; first | refine hK _ ?_ | (clear hK K; first | refine hK _ ?_ | (clear hK K; first | refine hK _ ?_ | (clear hK K; refine hK _ ?_))))); clear hK K) | refine awp_true rfl rfl ?_ | refine awp_false rfl rfl ?_ | refine awp_block ?_ | ((first | refine CallK.pure (enter113) (contains_tri s (by omega) x.v) ?_ ?_ | refine CallD.pure (enter113) (contains_tri s (by omega) x.v) ?_ ?_); (focus first | ((repeat (first | exact trivial | refine ⟨(by first | exact Or.inl rfl | exact Or.inr rfl), ?_⟩)); done) | (simp only [coL, AV.dat, true_or, or_true, AV.d.injEq, go_sem]; done)); simp only [go_sem, eb, em, nb, nm, h1, h2, hv, hc, List.length_map]) | refine And.intro (by first | ((repeat' first | omega | exact trivial | rfl | assumption | (intro a e; subst e; rfl) | exact map_sz fun a => (by simp only [go_sem]) | refine And.intro ?_ ?_); done) | fail) ?_ | fail)
      refine ret_st (by simp only [Try.results112, resOkL, resOk, Try.ntmps112, List.toList_toArray]; first | decide | (simp only [go_sem]; done) | (simp only [go_sem]; and_intros <;> first | omega | rfl | decide)) (by simp only [resA, resV, Try.results112, go_sem]; first | exact .dat rfl | exact Co.t2 (.dat rfl) (.dat rfl) | exact Co.t3 (.dat rfl) (.dat rfl) (.dat rfl)) ?_ ?_ ?_
      · refine ⟨fun n hn => ⟨(hag.get n hn).1, ?_⟩⟩
        simp only [List.mem_cons, List.not_mem_nil, or_false] at hn
        rcases hn with rfl | rfl
        · rw [stO_b, hadd]; simp only [go_sem, nb, nm, h1, h2]; simp
        · rw [stO_m hbm, hadd]; simp only [go_sem, nb, nm, h1, h2]; simp
      · refine FrN.updn (FrN.updn (by repeat (first | exact FrN.rfl' _ _ _ | assumption | refine FrN.updk ?_ (by omega) _ | refine FrN.stH ?_ _)) (by simp) _) (by simp) _
      · exact stO_cl b m _ k fun n hn => (hag.get n hn).1
set_option maxRecDepth 20000 in
theorem stands_tri (l : List Tm) (hl : (Tm.size.sizes l) ≤ 4000000) : Tri Try.prog 70 [.d (.sl (l.map tmDV))] (pure' (.d (.sl ((addVs [] (l.flatMap pre)).map iD)))) := by
  refine tri_enter Try.func70 rfl Try.ntmps70 (by simp only [List.length_cons, List.length_nil]; omega) fun w0 h0 k hrd hwr => ?_
  repeat' (first | refine awp_ghost (ghost_box (b := (k + 1, 0)) (e := 3) (e' := 22) (upd_self _ _ _)) ?_ | refine awp_seq_k fun K hK => ?_ | ((first | refine awp_region_k (by kernel_rfl) fun R hR => ?_ | refine awp_draw mixed (by kernel_rfl) (by kernel_rfl) fun R hR => ?_); simp only [go_sem]) | ((first | (refine hR _ ?_; clear hR R) | refine awp_skip ?_ | refine awp_exit ?_ | refine awp_ret ?_); try simp only [thenA, inBlockA, reduceIte, reduceCtorEq, Nat.reduceEqDiff, if_false, if_true]) | ((first | refine hK _ ?_ | (clear hK K; first | refine hK _ ?_ | (clear hK K; first | refine hK _ ?_ | (clear hK K; first | refine hK _ ?_ | (clear hK K; refine hK _ ?_))))); clear hK K) | refine awp_true rfl rfl ?_ | refine awp_false rfl rfl ?_ | refine awp_block ?_ | refine And.intro (by first | ((repeat' first | omega | exact trivial | rfl | assumption | (intro a e; subst e; rfl) | exact map_sz fun a => (by simp only [go_sem]) | refine And.intro ?_ ?_); done) | fail) ?_ | fail)
  obtain ⟨b, hb⟩ : ∃ b : Nm, b = (k + 1, 0) := ⟨_, rfl⟩
  obtain ⟨m, hm⟩ : ∃ m : Nm, m = (k + 1 + 1, 0) := ⟨_, rfl⟩
  have hbm : b ≠ m := by rw [hb, hm]; simp
  refine awp_loop (fun σ => ∃ i : Nat, σ.t 3 = .ptr b 0 ∧ σ.t 6 = .d (.sl (l.map tmDV)) ∧ σ.t 7 = iA l.length ∧ σ.t 8 = iA i ∧ Ag (k + 1 + 1 + 1) [b, m] (stO b m (addVs [] ((l.take i).flatMap pre))) σ.h ∧ Fr k h0 σ.h ∧ k + 1 + 1 + 1 ≤ σ.k ∧ i ≤ l.length) (fun σ => l.length - (intOf' (σ.t 8)).toNat) ?_ ?_
  · refine ⟨0, ?_⟩
    simp only [go_sem, hb]
    and_intros; all_goals try (first | rfl | omega | assumption | ((repeat (first | exact Fr.rfl' _ _ | assumption | refine Fr.updk ?_ (by omega) _)); done))
    refine ⟨fun n hn => ?_⟩
    simp only [List.mem_cons, List.not_mem_nil, or_false] at hn
    rcases hn with h | h
    · rw [h, stO_b, hm]
      refine ⟨by simp only; omega, ?_⟩
      simp only [go_sem, ]
      rfl
    · rw [h, stO_m (hb ▸ hbm), hm]
      refine ⟨by simp only; omega, ?_⟩
      simp only [go_sem, ]
      rfl
  · rintro σ ⟨i, s3, s6, s7, s8, hA, hF, hk, hi⟩
    have hll := Tm.sizes_len l
    rcases Nat.lt_or_ge i l.length with hlt | hge
    · have hz : (i : Int) < (l.length : Int) := by omega
      have e1 : (l.map tmDV).getD i default = tmDV l[i] := nth_map tmDV hlt _
      have hsz := Tm.sizes_at l i hlt
      have hcl := stO_cl b m
      have hlen : (addVs [] ((l.take i).flatMap pre)).length ≤ 4000000 := by
        have h1 := addVs_len ((l.take i).flatMap pre) []
        rw [← preL_flat, preL_len] at h1
        have h2 := sizes_take l i
        rw [← preL_flat]
        simp only [List.length_nil] at h1
        omega
      have hw := walk_tri (stO b m) [b, m] 112 [.ptr b 0] stStep (fun n s => s.length + n ≤ 16000000) (stO_cl b m) ((enter112)) (by simp) l[i] (fun x _ n s hs => ⟨by have := addV_len s x; simp only [stStep]; omega, fun pl => stands1_tri hbm s (by omega) pl x⟩) 0 (addVs [] ((l.take i).flatMap pre)) (by omega) (by omega)
      rw [walk_stands, ← addVs_append] at hw
      have ht : (l.take i).flatMap pre ++ pre l[i] = (l.take (i + 1)).flatMap pre := by rw [List.take_succ_eq_append_getElem hlt, List.flatMap_append]; simp
      rw [ht] at hw
      have hN1 := notN hA (k' := σ.k) (by omega)
      repeat' (first | refine awp_seq_k fun K hK => ?_ | ((first | refine awp_region_k (by kernel_rfl) fun R hR => ?_ | refine awp_draw mixed (by kernel_rfl) (by kernel_rfl) fun R hR => ?_); simp only [go_sem, s3, s6, s7, s8, hz, e1, hN1, Int.toNat_natCast]) | ((first | (refine hR _ ?_; clear hR R) | refine awp_skip ?_ | refine awp_exit ?_ | refine awp_ret ?_); try simp only [thenA, inBlockA, reduceIte, reduceCtorEq, Nat.reduceEqDiff, if_false, if_true]) | ((first | refine hK _ ?_ | (clear hK K; first | refine hK _ ?_ | (clear hK K; first | refine hK _ ?_ | (clear hK K; first | refine hK _ ?_ | (clear hK K; refine hK _ ?_))))); clear hK K) | refine awp_true rfl rfl ?_ | refine awp_false rfl rfl ?_ | refine awp_block ?_ | ((first | refine CallK.chg (enter111) (hw) ?_ (by assumption) (by repeat (first | exact Fr.rfl' _ _ | assumption | refine Fr.updk ?_ (by omega) _)) ?_ | refine CallD.chg (enter111) (hw) ?_ (by assumption) (by repeat (first | exact Fr.rfl' _ _ | assumption | refine Fr.updk ?_ (by omega) _)) (by assumption) ?_); (focus first | ((repeat (first | exact trivial | refine ⟨(by first | exact Or.inl rfl | exact Or.inr rfl), ?_⟩)); done) | (simp only [coL, AV.dat, true_or, or_true, AV.d.injEq, go_sem]; done)); simp only [go_sem, s3, s6, s7, s8, hz, e1, hN1, Int.toNat_natCast]) | refine And.intro (by first | ((repeat' first | omega | exact trivial | rfl | assumption | (intro a e; subst e; rfl) | exact map_sz fun a => (by simp only [go_sem]) | refine And.intro ?_ ?_); done) | fail) ?_ | fail)
      refine ⟨⟨i + 1, ?_⟩, ?_⟩
      · simp only [go_sem, s3, s6, s7, s8]
        and_intros; all_goals try (first | rfl | omega | assumption | ((repeat (first | exact Fr.rfl' _ _ | assumption | refine Fr.updk ?_ (by omega) _)); done))
        · exact Ag.stN (fun n hn => (hA.get n hn).1) _ _
        · exact Fr.stH (by repeat (first | exact Fr.rfl' _ _ | assumption | refine Fr.updk ?_ (by omega) _)) _ (fun n hn => by
            simp only [List.mem_cons, List.not_mem_nil, or_false] at hn
            rcases hn with h | h <;> rw [h] <;> (first | rw [hb] | rw [hm]) <;> simp only <;> omega)
      · simp only [go_sem, s8]; omega
    · have hz : ¬ ((i : Int) < (l.length : Int)) := by omega
      obtain rfl : i = l.length := by omega
      rw [List.take_length] at hA
      have hbg := (hA.get b (by simp)).2
      rw [stO_b] at hbg
      repeat' (first | refine awp_seq_k fun K hK => ?_ | ((first | refine awp_region_k (by kernel_rfl) fun R hR => ?_ | refine awp_draw mixed (by kernel_rfl) (by kernel_rfl) fun R hR => ?_); simp only [go_sem, s3, s7, s8, hz, hbg]) | ((first | (refine hR _ ?_; clear hR R) | refine awp_skip ?_ | refine awp_exit ?_ | refine awp_ret ?_); try simp only [thenA, inBlockA, reduceIte, reduceCtorEq, Nat.reduceEqDiff, if_false, if_true]) | ((first | refine hK _ ?_ | (clear hK K; first | refine hK _ ?_ | (clear hK K; first | refine hK _ ?_ | (clear hK K; first | refine hK _ ?_ | (clear hK K; refine hK _ ?_))))); clear hK K) | refine awp_true rfl rfl ?_ | refine awp_false rfl rfl ?_ | refine awp_block ?_ | refine And.intro (by first | ((repeat' first | omega | exact trivial | rfl | assumption | (intro a e; subst e; rfl) | exact map_sz fun a => (by simp only [go_sem]) | refine And.intro ?_ ?_); done) | fail) ?_ | fail)
      (first | refine ret_pure ?_ ?_ ?_ | refine ret_ro ?_ ?_ ?_); focus exact (by simp only [Try.results70, resOkL, resOk, Try.ntmps70, List.toList_toArray]; first | decide | (simp only [go_sem]; done) | (simp only [go_sem]; and_intros <;> first | omega | rfl | decide))
      rotate_left; focus exact (by repeat (first | exact Fr.rfl' _ _ | assumption | refine Fr.updk ?_ (by omega) _))
      simp only [resA, resV, Try.results70, go_sem]
      all_goals try (first | exact Co.t2 (.dat rfl) (.dat rfl) | exact Co.t3 (.dat rfl) (.dat rfl) (.dat rfl))
      exact .dat rfl
end Go.Proofs.Ytmeekpinkfpnhaa
namespace Go.Proofs.Ytmeekpinkfpnhaa
open Go.RowKit
def PartsSpec' (t : Tm) : Prop := t.fits → ∀ (n : Nm) (l : List Tm), l.length + (parts t).length ≤ 4000000 →
  Tri Try.prog 63 [.own n (l.map tmDV), .d (tmDV t)] (ownEff 27 n (l.map tmDV) ((l ++ parts t).map tmDV))
theorem partsOf_step (t : Tm) (ih : ∀ u ∈ t.us, PartsSpec' u) : PartsSpec' t := by
  intro hft n l hsz
  have hlen := Tm.fits_len hft
  have hp2 := parts_eq t
  have hp3 : (parts t).length = (partsL t.us).length + 1 := by rw [hp2]; simp
  refine tri_enter Try.func63 rfl Try.ntmps63 (by simp only [List.length_cons, List.length_nil]; omega) fun w0 h0 k hrd hwr => ?_
  have hn : h0 n = some (.perm 27 (l.map tmDV).length) := hrd (n, _) (by simp [ownEff])
  have hnk : n.1 < k := hwr (n, _) (by simp only [ownEff, List.mem_cons, List.not_mem_nil, or_false]; rfl)
  have hne := nmne hnk
  rw [List.length_map] at hn
  repeat' (first | refine awp_seq_k fun K hK => ?_ | ((first | refine awp_region_k (by kernel_rfl) fun R hR => ?_ | refine awp_draw mixed (by kernel_rfl) (by kernel_rfl) fun R hR => ?_); simp only [go_sem, hne]) | ((first | (refine hR _ ?_; clear hR R) | refine awp_skip ?_ | refine awp_exit ?_ | refine awp_ret ?_); try simp only [thenA, inBlockA, reduceIte, reduceCtorEq, Nat.reduceEqDiff, if_false, if_true]) | ((first | refine hK _ ?_ | (clear hK K; first | refine hK _ ?_ | (clear hK K; first | refine hK _ ?_ | (clear hK K; first | refine hK _ ?_ | (clear hK K; refine hK _ ?_))))); clear hK K) | refine awp_true rfl rfl ?_ | refine awp_false rfl rfl ?_ | refine awp_block ?_ | refine And.intro (by first | ((repeat' first | omega | exact trivial | rfl | assumption | (intro a e; subst e; rfl) | exact map_sz fun a => (by simp only [go_sem]) | refine And.intro ?_ ?_); done) | fail) ?_ | fail)
  refine awp_loop (fun s => ∃ (i : Nat), s.t 0 = .own n ((l ++ partsL (t.us.take i)).map tmDV) ∧ s.t 3 = .ptr (k, 0) 0 ∧ s.t 5 = iA i ∧ s.h (k, 0) = some (.cells 27 [iA t.v, iA t.f, .d (.sl (t.us.map tmDV))]) ∧
    s.h n = some (.perm 27 (l ++ partsL (t.us.take i)).length) ∧ FrX k n h0 s.h ∧ k < s.k ∧ i ≤ t.us.length) (fun s => t.us.length - (intOf' (s.t 5)).toNat) ?_ ?_
  · refine ⟨0, ?_⟩
    simp only [go_sem, hne, hn, partsL, List.take_zero, List.append_nil]
    and_intros; all_goals try (first | rfl | omega | assumption | ((repeat (first | exact Fr.rfl' _ _ | assumption | refine Fr.updk ?_ (by omega) _)); done))
    exact FrX.updk (FrX.rfl' _ _ _) (by omega) _
  · rintro s ⟨i, s0, s3, s5, sh, sn, hfr, hk, hi⟩
    have hne' := nmne (show n.1 < s.k by omega)
    rcases Nat.lt_or_ge i t.us.length with hlt | hge
    · have e1 := nth_map tmDV hlt default
      have hz : (i : Int) < (t.us.length : Int) := by omega
      have hp := partsL_at hlt
      repeat' (first | refine awp_seq_k fun K hK => ?_ | ((first | refine awp_region_k (by kernel_rfl) fun R hR => ?_ | refine awp_draw mixed (by kernel_rfl) (by kernel_rfl) fun R hR => ?_); simp only [go_sem, s0, s3, s5, sh, sn, e1, hz, hne, hne', Int.toNat_natCast]) | ((first | (refine hR _ ?_; clear hR R) | refine awp_skip ?_ | refine awp_exit ?_ | refine awp_ret ?_); try simp only [thenA, inBlockA, reduceIte, reduceCtorEq, Nat.reduceEqDiff, if_false, if_true]) | ((first | refine hK _ ?_ | (clear hK K; first | refine hK _ ?_ | (clear hK K; first | refine hK _ ?_ | (clear hK K; first | refine hK _ ?_ | (clear hK K; refine hK _ ?_))))); clear hK K) | refine awp_true rfl rfl ?_ | refine awp_false rfl rfl ?_ | refine awp_block ?_ | ((first | refine CallK.eff (enter63) (ih _ (List.getElem_mem hlt) (Tm.fits_at hft hlt) n (l ++ partsL (t.us.take i)) (by rw [List.length_append]; omega)) ?_ ?_ ?_ ?_ | refine CallD.eff (enter63) (ih _ (List.getElem_mem hlt) (Tm.fits_at hft hlt) n (l ++ partsL (t.us.take i)) (by rw [List.length_append]; omega)) ?_ ?_ ?_ ?_); (focus first | ((repeat (first | exact trivial | refine ⟨(by first | exact Or.inl rfl | exact Or.inr rfl), ?_⟩)); done) | (simp only [coL, AV.dat, true_or, or_true, AV.d.injEq, go_sem]; done)); (focus (simp only [go_sem, s0, s3, s5, sh, sn, e1, hz, hne, hne', Int.toNat_natCast]; done)); (focus (simp only [go_sem, s0, s3, s5, sh, sn, e1, hz, hne, hne', Int.toNat_natCast]; done)); simp only [go_sem, s0, s3, s5, sh, sn, e1, hz, hne, hne', Int.toNat_natCast]) | refine And.intro (by first | ((repeat' first | omega | exact trivial | rfl | assumption | (intro a e; subst e; rfl) | exact map_sz fun a => (by simp only [go_sem]) | refine And.intro ?_ ?_); done) | fail) ?_ | fail)
      refine ⟨⟨i + 1, ?_⟩, ?_⟩
      rotate_left
      · simp only [go_sem, s0, s3, s5, sh, sn, hne, hne', partsL_take hlt]; omega
      simp only [go_sem, s0, s3, s5, sh, sn, hne, hne', partsL_take hlt]
      and_intros; all_goals try (first | rfl | omega | assumption | ((repeat (first | exact Fr.rfl' _ _ | assumption | refine Fr.updk ?_ (by omega) _)); done))
      exact FrX.updn hfr _
    · have hz : ¬ ((i : Int) < (t.us.length : Int)) := by omega
      obtain rfl : i = t.us.length := by omega
      have e2 : partsL (List.take t.us.length t.us) = partsL t.us := by rw [List.take_length]
      rw [e2] at s0 sn
      have hl : (l ++ partsL t.us).length ≤ 16777215 := by rw [List.length_append]; omega
      repeat' (first | refine awp_seq_k fun K hK => ?_ | ((first | refine awp_region_k (by kernel_rfl) fun R hR => ?_ | refine awp_draw mixed (by kernel_rfl) (by kernel_rfl) fun R hR => ?_); simp only [go_sem, s0, s3, s5, sh, sn, hz, hne, hne']) | ((first | (refine hR _ ?_; clear hR R) | refine awp_skip ?_ | refine awp_exit ?_ | refine awp_ret ?_); try simp only [thenA, inBlockA, reduceIte, reduceCtorEq, Nat.reduceEqDiff, if_false, if_true]) | ((first | refine hK _ ?_ | (clear hK K; first | refine hK _ ?_ | (clear hK K; first | refine hK _ ?_ | (clear hK K; first | refine hK _ ?_ | (clear hK K; refine hK _ ?_))))); clear hK K) | refine awp_true rfl rfl ?_ | refine awp_false rfl rfl ?_ | refine awp_block ?_ | refine And.intro (by first | ((repeat' first | omega | exact trivial | rfl | assumption | (intro a e; subst e; rfl) | exact map_sz fun a => (by simp only [go_sem]) | refine And.intro ?_ ?_); done) | fail) ?_ | fail)
      refine ret_own (by simp only [Try.results63, resOkL, resOk, Try.ntmps63, List.toList_toArray]; decide) ?_ (by assumption) ?_ ?_
      all_goals simp only [resA, resV, Try.results63, go_sem, hne, hne', e2, hp2]
      · simp
      · simp
      · exact FrX.updn (FrX.updk hfr (by omega) _) _
theorem partsOf_tri (t : Tm) : PartsSpec' t := Tm.ind partsOf_step t
theorem partsOf_new (t : Tm) (hft : t.fits) (hsz : (parts t).length ≤ 4000000) (n' : Nm) : Tri Try.prog 63 [.nil, .d (tmDV t)] (newEff 27 n' ((parts t).map tmDV)) :=
  Tri.grown (pre := []) (fun n => by have := partsOf_tri t hft n [] (by simpa using hsz); simpa using this) n'
theorem partsOf_data (t : Tm) (hft : t.fits) (hsz : (parts t).length ≤ 4000000) : Tri Try.prog 63 [.nil, .d (tmDV t)] (pure' (.d (.sl ((parts t).map tmDV)))) := Tri.data fun n' => partsOf_new t hft hsz n'
end Go.Proofs.Ytmeekpinkfpnhaa
namespace Go.Proofs.Ytmeekpinkfpnhaa
open Go.RowKit
set_option maxRecDepth 20000 in
theorem has_tri (l : List Int) (hl : l.length ≤ 16777216) (v : Int) : Tri Try.prog 82 [.d (.sl (l.map iD)), iA v] (pure' (bA (l.contains v))) := by
  refine tri_enter Try.func82 rfl Try.ntmps82 (by simp only [List.length_cons, List.length_nil]; omega) fun w0 h0 k hrd hwr => ?_
  repeat' (first | refine awp_seq_k fun K hK => ?_ | ((first | refine awp_region_k (by kernel_rfl) fun R hR => ?_ | refine awp_draw mixed (by kernel_rfl) (by kernel_rfl) fun R hR => ?_); simp only [go_sem]) | ((first | (refine hR _ ?_; clear hR R) | refine awp_skip ?_ | refine awp_exit ?_ | refine awp_ret ?_); try simp only [thenA, inBlockA, reduceIte, reduceCtorEq, Nat.reduceEqDiff, if_false, if_true]) | ((first | refine hK _ ?_ | (clear hK K; first | refine hK _ ?_ | (clear hK K; first | refine hK _ ?_ | (clear hK K; first | refine hK _ ?_ | (clear hK K; refine hK _ ?_))))); clear hK K) | refine awp_true rfl rfl ?_ | refine awp_false rfl rfl ?_ | refine awp_block ?_ | refine And.intro (by first | ((repeat' first | omega | exact trivial | rfl | assumption | (intro a e; subst e; rfl) | exact map_sz fun a => (by simp only [go_sem]) | refine And.intro ?_ ?_); done) | fail) ?_ | fail)
  refine awp_loop (fun σ => ∃ i : Nat, σ.t 0 = .d (.sl (l.map iD)) ∧ σ.t 1 = iA v ∧ σ.t 5 = iA i ∧ σ.h = h0 ∧ i ≤ l.length ∧ (l.drop i).contains v = l.contains v) (fun σ => l.length - (intOf' (σ.t 5)).toNat) ?_ ?_
  · refine ⟨0, ?_⟩
    simp only [go_sem, List.drop_zero]
    and_intros; all_goals try (first | rfl | omega | assumption | ((repeat (first | exact Fr.rfl' _ _ | assumption | refine Fr.updk ?_ (by omega) _)); done))
  · rintro σ ⟨i, s0, s1, s5, sh, hi, hv⟩
    have hfr : Fr k h0 σ.h := by rw [sh]; exact Fr.rfl' _ _
    rcases Nat.lt_or_ge i l.length with hlt | hge
    · have hz : (i : Int) < (l.length : Int) := by omega
      have e1 : (l.map iD).getD i default = iD l[i] := nth_map iD hlt _
      have e2 : (l.drop i).contains v = (v == l[i] || (l.drop (i + 1)).contains v) := by rw [List.drop_eq_getElem_cons hlt, List.contains_cons]
      rw [e2] at hv
      have e3 : (v == l[i]) = (l[i] == v) := by rw [Bool.eq_iff_iff, beq_iff_eq, beq_iff_eq]; exact eq_comm
      rw [e3] at hv
      cases hc : l[i] == v with
      | true =>
        rw [hc] at hv
        repeat' (first | refine awp_seq_k fun K hK => ?_ | ((first | refine awp_region_k (by kernel_rfl) fun R hR => ?_ | refine awp_draw mixed (by kernel_rfl) (by kernel_rfl) fun R hR => ?_); simp only [go_sem, s0, s1, s5, hz, e1, hc, Int.toNat_natCast]) | ((first | (refine hR _ ?_; clear hR R) | refine awp_skip ?_ | refine awp_exit ?_ | refine awp_ret ?_); try simp only [thenA, inBlockA, reduceIte, reduceCtorEq, Nat.reduceEqDiff, if_false, if_true]) | ((first | refine hK _ ?_ | (clear hK K; first | refine hK _ ?_ | (clear hK K; first | refine hK _ ?_ | (clear hK K; first | refine hK _ ?_ | (clear hK K; refine hK _ ?_))))); clear hK K) | refine awp_true rfl rfl ?_ | refine awp_false rfl rfl ?_ | refine awp_block ?_ | refine And.intro (by first | ((repeat' first | omega | exact trivial | rfl | assumption | (intro a e; subst e; rfl) | exact map_sz fun a => (by simp only [go_sem]) | refine And.intro ?_ ?_); done) | fail) ?_ | fail)
        (first | refine ret_pure ?_ ?_ ?_ | refine ret_ro ?_ ?_ ?_); focus exact (by simp only [Try.results82, resOkL, resOk, Try.ntmps82, List.toList_toArray]; first | decide | (simp only [go_sem]; done) | (simp only [go_sem]; and_intros <;> first | omega | rfl | decide))
        rotate_left; focus exact (by repeat (first | exact Fr.rfl' _ _ | assumption | refine Fr.updk ?_ (by omega) _))
        simp only [resA, resV, Try.results82, go_sem]
        all_goals try (first | exact Co.t2 (.dat rfl) (.dat rfl) | exact Co.t3 (.dat rfl) (.dat rfl) (.dat rfl))
        exact co_b (by rw [← hv]; rfl)
      | false =>
        rw [hc] at hv
        repeat' (first | refine awp_seq_k fun K hK => ?_ | ((first | refine awp_region_k (by kernel_rfl) fun R hR => ?_ | refine awp_draw mixed (by kernel_rfl) (by kernel_rfl) fun R hR => ?_); simp only [go_sem, s0, s1, s5, hz, e1, hc, Int.toNat_natCast]) | ((first | (refine hR _ ?_; clear hR R) | refine awp_skip ?_ | refine awp_exit ?_ | refine awp_ret ?_); try simp only [thenA, inBlockA, reduceIte, reduceCtorEq, Nat.reduceEqDiff, if_false, if_true]) | ((first | refine hK _ ?_ | (clear hK K; first | refine hK _ ?_ | (clear hK K; first | refine hK _ ?_ | (clear hK K; first | refine hK _ ?_ | (clear hK K; refine hK _ ?_))))); clear hK K) | refine awp_true rfl rfl ?_ | refine awp_false rfl rfl ?_ | refine awp_block ?_ | refine And.intro (by first | ((repeat' first | omega | exact trivial | rfl | assumption | (intro a e; subst e; rfl) | exact map_sz fun a => (by simp only [go_sem]) | refine And.intro ?_ ?_); done) | fail) ?_ | fail)
        refine ⟨⟨i + 1, ?_⟩, ?_⟩
        rotate_left
        · simp only [go_sem, s0, s1, s5, sh]; omega
        simp only [go_sem, s0, s1, s5, sh]
        and_intros; all_goals try (first | rfl | omega | assumption | ((repeat (first | exact Fr.rfl' _ _ | assumption | refine Fr.updk ?_ (by omega) _)); done))
        all_goals (rw [← hv]; rfl)
    · have hz : ¬ ((i : Int) < (l.length : Int)) := by omega
      rw [List.drop_eq_nil_of_le hge] at hv
      repeat' (first | refine awp_seq_k fun K hK => ?_ | ((first | refine awp_region_k (by kernel_rfl) fun R hR => ?_ | refine awp_draw mixed (by kernel_rfl) (by kernel_rfl) fun R hR => ?_); simp only [go_sem, s0, s1, s5, hz]) | ((first | (refine hR _ ?_; clear hR R) | refine awp_skip ?_ | refine awp_exit ?_ | refine awp_ret ?_); try simp only [thenA, inBlockA, reduceIte, reduceCtorEq, Nat.reduceEqDiff, if_false, if_true]) | ((first | refine hK _ ?_ | (clear hK K; first | refine hK _ ?_ | (clear hK K; first | refine hK _ ?_ | (clear hK K; first | refine hK _ ?_ | (clear hK K; refine hK _ ?_))))); clear hK K) | refine awp_true rfl rfl ?_ | refine awp_false rfl rfl ?_ | refine awp_block ?_ | refine And.intro (by first | ((repeat' first | omega | exact trivial | rfl | assumption | (intro a e; subst e; rfl) | exact map_sz fun a => (by simp only [go_sem]) | refine And.intro ?_ ?_); done) | fail) ?_ | fail)
      (first | refine ret_pure ?_ ?_ ?_ | refine ret_ro ?_ ?_ ?_); focus exact (by simp only [Try.results82, resOkL, resOk, Try.ntmps82, List.toList_toArray]; first | decide | (simp only [go_sem]; done) | (simp only [go_sem]; and_intros <;> first | omega | rfl | decide))
      rotate_left; focus exact (by repeat (first | exact Fr.rfl' _ _ | assumption | refine Fr.updk ?_ (by omega) _))
      simp only [resA, resV, Try.results82, go_sem]
      all_goals try (first | exact Co.t2 (.dat rfl) (.dat rfl) | exact Co.t3 (.dat rfl) (.dat rfl) (.dat rfl))
      all_goals exact co_b (by rw [← hv]; rfl)
theorem termsOf_take {c : List Lt} {i : Nat} (hi : i < c.length) : termsOf (c.take (i + 1)) = termsOf (c.take i) ++ [c[i].a, c[i].b] := by
  rw [List.take_succ_eq_append_getElem hi, termsOf, List.flatMap_append]; rfl
theorem termsOf_len (c : List Lt) : (termsOf c).length = 2 * c.length := by
  induction c with
  | nil => rfl
  | cons x c ih => simp only [termsOf, List.flatMap_cons, List.length_append, List.length_cons, List.length_nil] at ih ⊢; omega
set_option maxRecDepth 20000 in
theorem terms_new (c : List Lt) (hc : c.length ≤ 4000000) (n' : Nm) : Tri Try.prog 75 [.d (clDV c)] (newEff 27 n' ((termsOf c).map tmDV)) := by
  refine tri_enter Try.func75 rfl Try.ntmps75 (by simp only [List.length_cons, List.length_nil]; omega) fun w0 h0 k hrd hwr => ?_
  have hn' : n'.1 < k := hwr _ (List.mem_cons_self ..)
  have h0' : h0 n' = none := hrd _ (List.mem_cons_self ..)
  repeat' (first | refine awp_ghost (ghost_nil (i := 3) (e := 27) rfl) ?_ | refine awp_seq_k fun K hK => ?_ | ((first | refine awp_region_k (by kernel_rfl) fun R hR => ?_ | refine awp_draw mixed (by kernel_rfl) (by kernel_rfl) fun R hR => ?_); simp only [go_sem]) | ((first | (refine hR _ ?_; clear hR R) | refine awp_skip ?_ | refine awp_exit ?_ | refine awp_ret ?_); try simp only [thenA, inBlockA, reduceIte, reduceCtorEq, Nat.reduceEqDiff, if_false, if_true]) | ((first | refine hK _ ?_ | (clear hK K; first | refine hK _ ?_ | (clear hK K; first | refine hK _ ?_ | (clear hK K; first | refine hK _ ?_ | (clear hK K; refine hK _ ?_))))); clear hK K) | refine awp_true rfl rfl ?_ | refine awp_false rfl rfl ?_ | refine awp_block ?_ | refine And.intro (by first | ((repeat' first | omega | exact trivial | rfl | assumption | (intro a e; subst e; rfl) | exact map_sz fun a => (by simp only [go_sem]) | refine And.intro ?_ ?_); done) | fail) ?_ | fail)
  refine awp_loop (fun σ => ∃ i : Nat, σ.t 3 = .own (k + 1 + 1, 0) ((termsOf (c.take i)).map tmDV) ∧ σ.t 6 = .d (clDV c) ∧ σ.t 7 = iA c.length ∧ σ.t 8 = iA i ∧ σ.h (k + 1 + 1, 0) = some (.perm 27 (termsOf (c.take i)).length) ∧ Fr k h0 σ.h ∧ k + 1 + 1 + 1 ≤ σ.k ∧ i ≤ c.length) (fun σ => c.length - (intOf' (σ.t 8)).toNat) ?_ ?_
  · refine ⟨0, ?_⟩
    simp only [go_sem, List.take_zero]
    and_intros; all_goals try (first | rfl | omega | assumption | ((repeat (first | exact Fr.rfl' _ _ | assumption | refine Fr.updk ?_ (by omega) _)); done))
  · rintro σ ⟨i, s3, s6, s7, s8, sh, hF, hk, hi⟩
    have ht := termsOf_len (c.take i)
    rw [List.length_take] at ht
    have hne := ltne (show k + 1 + 1 < σ.k by omega)
    rcases Nat.lt_or_ge i c.length with hlt | hge
    · have hz : (i : Int) < (c.length : Int) := by omega
      have e1 : (c.map ltDV).getD i default = ltDV c[i] := nth_map ltDV hlt _
      have htk : (termsOf (c.take i)).map tmDV ++ [tmDV c[i].a, tmDV c[i].b] = (termsOf (c.take (i + 1))).map tmDV := by rw [termsOf_take hlt]; simp
      repeat' (first | refine awp_seq_k fun K hK => ?_ | ((first | refine awp_region_k (by kernel_rfl) fun R hR => ?_ | refine awp_draw mixed (by kernel_rfl) (by kernel_rfl) fun R hR => ?_); simp only [go_sem, s3, s6, s7, s8, sh, hz, e1, hne, List.length_map, Int.toNat_natCast]) | ((first | (refine hR _ ?_; clear hR R) | refine awp_skip ?_ | refine awp_exit ?_ | refine awp_ret ?_); try simp only [thenA, inBlockA, reduceIte, reduceCtorEq, Nat.reduceEqDiff, if_false, if_true]) | ((first | refine hK _ ?_ | (clear hK K; first | refine hK _ ?_ | (clear hK K; first | refine hK _ ?_ | (clear hK K; first | refine hK _ ?_ | (clear hK K; refine hK _ ?_))))); clear hK K) | refine awp_true rfl rfl ?_ | refine awp_false rfl rfl ?_ | refine awp_block ?_ | refine And.intro (by first | ((repeat' first | omega | exact trivial | rfl | assumption | (intro a e; subst e; rfl) | exact map_sz fun a => (by simp only [go_sem]) | refine And.intro ?_ ?_); done) | fail) ?_ | fail)
      refine ⟨⟨i + 1, ?_⟩, ?_⟩
      rotate_left
      · simp only [go_sem, s3, s6, s7, s8, sh, hne, htk, List.length_map]; omega
      simp only [go_sem, s3, s6, s7, s8, sh, hne, htk, List.length_map]
      and_intros; all_goals try (first | rfl | omega | assumption | ((repeat (first | exact Fr.rfl' _ _ | assumption | refine Fr.updk ?_ (by omega) _)); done))
    · have hz : ¬ ((i : Int) < (c.length : Int)) := by omega
      obtain rfl : i = c.length := by omega
      rw [List.take_length] at s3 sh
      repeat' (first | refine awp_seq_k fun K hK => ?_ | ((first | refine awp_region_k (by kernel_rfl) fun R hR => ?_ | refine awp_draw mixed (by kernel_rfl) (by kernel_rfl) fun R hR => ?_); simp only [go_sem, s3, s7, s8, sh, hz, hne]) | ((first | (refine hR _ ?_; clear hR R) | refine awp_skip ?_ | refine awp_exit ?_ | refine awp_ret ?_); try simp only [thenA, inBlockA, reduceIte, reduceCtorEq, Nat.reduceEqDiff, if_false, if_true]) | ((first | refine hK _ ?_ | (clear hK K; first | refine hK _ ?_ | (clear hK K; first | refine hK _ ?_ | (clear hK K; first | refine hK _ ?_ | (clear hK K; refine hK _ ?_))))); clear hK K) | refine awp_true rfl rfl ?_ | refine awp_false rfl rfl ?_ | refine awp_block ?_ | refine And.intro (by first | ((repeat' first | omega | exact trivial | rfl | assumption | (intro a e; subst e; rfl) | exact map_sz fun a => (by simp only [go_sem]) | refine And.intro ?_ ?_); done) | fail) ?_ | fail)
      refine ret_new (by simp only [Try.results75, resOkL, resOk, Try.ntmps75, List.toList_toArray]; first | decide | (simp only [go_sem, hne, sh]; done) | (simp only [go_sem, hne, sh]; and_intros <;> first | omega | rfl | decide)) (by simp only [resA, resV, Try.results75, go_sem, hne, sh]; try rfl) ?_ hn' h0' ?_ (by repeat (first | exact Fr.rfl' _ _ | assumption | refine Fr.updk ?_ (by omega) _)) <;> simp only [go_sem, List.length_map, hne, sh] <;> first | rfl | omega
theorem terms_tri (c : List Lt) (hc : c.length ≤ 4000000) : Tri Try.prog 75 [.d (clDV c)] (pure' (.d (.sl ((termsOf c).map tmDV)))) := Tri.data fun n' => terms_new c hc n'
set_option maxRecDepth 20000 in
theorem termsOf_new (c : List Lt) (hc : c.length ≤ 4000000) (n' : Nm) : Tri Try.prog 25 [.d (clDV c)] (newEff 27 n' ((termsOf c).map tmDV)) := by
  refine tri_enter Try.func25 rfl Try.ntmps25 (by simp only [List.length_cons, List.length_nil]; omega) fun w0 h0 k hrd hwr => ?_
  have hn' : n'.1 < k := hwr _ (List.mem_cons_self ..)
  have h0' : h0 n' = none := hrd _ (List.mem_cons_self ..)
  repeat' (first | refine awp_ghost (ghost_nil (i := 3) (e := 27) rfl) ?_ | refine awp_seq_k fun K hK => ?_ | ((first | refine awp_region_k (by kernel_rfl) fun R hR => ?_ | refine awp_draw mixed (by kernel_rfl) (by kernel_rfl) fun R hR => ?_); simp only [go_sem]) | ((first | (refine hR _ ?_; clear hR R) | refine awp_skip ?_ | refine awp_exit ?_ | refine awp_ret ?_); try simp only [thenA, inBlockA, reduceIte, reduceCtorEq, Nat.reduceEqDiff, if_false, if_true]) | ((first | refine hK _ ?_ | (clear hK K; first | refine hK _ ?_ | (clear hK K; first | refine hK _ ?_ | (clear hK K; first | refine hK _ ?_ | (clear hK K; refine hK _ ?_))))); clear hK K) | refine awp_true rfl rfl ?_ | refine awp_false rfl rfl ?_ | refine awp_block ?_ | refine And.intro (by first | ((repeat' first | omega | exact trivial | rfl | assumption | (intro a e; subst e; rfl) | exact map_sz fun a => (by simp only [go_sem]) | refine And.intro ?_ ?_); done) | fail) ?_ | fail)
  refine awp_loop (fun σ => ∃ i : Nat, σ.t 3 = .own (k + 1 + 1, 0) ((termsOf (c.take i)).map tmDV) ∧ σ.t 0 = .d (clDV c) ∧ σ.t 4 = iA i ∧ σ.h (k + 1 + 1, 0) = some (.perm 27 (termsOf (c.take i)).length) ∧ Fr k h0 σ.h ∧ k + 1 + 1 + 1 ≤ σ.k ∧ i ≤ c.length) (fun σ => c.length - (intOf' (σ.t 4)).toNat) ?_ ?_
  · refine ⟨0, ?_⟩
    simp only [go_sem, List.take_zero]
    and_intros; all_goals try (first | rfl | omega | assumption | ((repeat (first | exact Fr.rfl' _ _ | assumption | refine Fr.updk ?_ (by omega) _)); done))
  · rintro σ ⟨i, s3, s0, s4, sh, hF, hk, hi⟩
    have ht := termsOf_len (c.take i)
    rw [List.length_take] at ht
    have hne := ltne (show k + 1 + 1 < σ.k by omega)
    rcases Nat.lt_or_ge i c.length with hlt | hge
    · have hz : (i : Int) < (c.length : Int) := by omega
      have e1 : (c.map ltDV).getD i default = ltDV c[i] := nth_map ltDV hlt _
      have htk : (termsOf (c.take i)).map tmDV ++ [tmDV c[i].a, tmDV c[i].b] = (termsOf (c.take (i + 1))).map tmDV := by rw [termsOf_take hlt]; simp
      repeat' (first | refine awp_seq_k fun K hK => ?_ | ((first | refine awp_region_k (by kernel_rfl) fun R hR => ?_ | refine awp_draw mixed (by kernel_rfl) (by kernel_rfl) fun R hR => ?_); simp only [go_sem, s3, s0, s4, sh, hz, e1, hne, List.length_map, Int.toNat_natCast]) | ((first | (refine hR _ ?_; clear hR R) | refine awp_skip ?_ | refine awp_exit ?_ | refine awp_ret ?_); try simp only [thenA, inBlockA, reduceIte, reduceCtorEq, Nat.reduceEqDiff, if_false, if_true]) | ((first | refine hK _ ?_ | (clear hK K; first | refine hK _ ?_ | (clear hK K; first | refine hK _ ?_ | (clear hK K; first | refine hK _ ?_ | (clear hK K; refine hK _ ?_))))); clear hK K) | refine awp_true rfl rfl ?_ | refine awp_false rfl rfl ?_ | refine awp_block ?_ | refine And.intro (by first | ((repeat' first | omega | exact trivial | rfl | assumption | (intro a e; subst e; rfl) | exact map_sz fun a => (by simp only [go_sem]) | refine And.intro ?_ ?_); done) | fail) ?_ | fail)
      refine ⟨⟨i + 1, ?_⟩, ?_⟩
      rotate_left
      · simp only [go_sem, s3, s0, s4, sh, hne, htk, List.length_map]; omega
      simp only [go_sem, s3, s0, s4, sh, hne, htk, List.length_map]
      and_intros; all_goals try (first | rfl | omega | assumption | ((repeat (first | exact Fr.rfl' _ _ | assumption | refine Fr.updk ?_ (by omega) _)); done))
    · have hz : ¬ ((i : Int) < (c.length : Int)) := by omega
      obtain rfl : i = c.length := by omega
      rw [List.take_length] at s3 sh
      repeat' (first | refine awp_seq_k fun K hK => ?_ | ((first | refine awp_region_k (by kernel_rfl) fun R hR => ?_ | refine awp_draw mixed (by kernel_rfl) (by kernel_rfl) fun R hR => ?_); simp only [go_sem, s3, s0, s4, sh, hz, hne]) | ((first | (refine hR _ ?_; clear hR R) | refine awp_skip ?_ | refine awp_exit ?_ | refine awp_ret ?_); try simp only [thenA, inBlockA, reduceIte, reduceCtorEq, Nat.reduceEqDiff, if_false, if_true]) | ((first | refine hK _ ?_ | (clear hK K; first | refine hK _ ?_ | (clear hK K; first | refine hK _ ?_ | (clear hK K; first | refine hK _ ?_ | (clear hK K; refine hK _ ?_))))); clear hK K) | refine awp_true rfl rfl ?_ | refine awp_false rfl rfl ?_ | refine awp_block ?_ | refine And.intro (by first | ((repeat' first | omega | exact trivial | rfl | assumption | (intro a e; subst e; rfl) | exact map_sz fun a => (by simp only [go_sem]) | refine And.intro ?_ ?_); done) | fail) ?_ | fail)
      refine ret_new (by simp only [Try.results25, resOkL, resOk, Try.ntmps25, List.toList_toArray]; first | decide | (simp only [go_sem, hne, sh]; done) | (simp only [go_sem, hne, sh]; and_intros <;> first | omega | rfl | decide)) (by simp only [resA, resV, Try.results25, go_sem, hne, sh]; try rfl) ?_ hn' h0' ?_ (by repeat (first | exact Fr.rfl' _ _ | assumption | refine Fr.updk ?_ (by omega) _)) <;> simp only [go_sem, List.length_map, hne, sh] <;> first | rfl | omega
theorem termsOf_tri (c : List Lt) (hc : c.length ≤ 4000000) : Tri Try.prog 25 [.d (clDV c)] (pure' (.d (.sl ((termsOf c).map tmDV)))) := Tri.data fun n' => termsOf_new c hc n'
end Go.Proofs.Ytmeekpinkfpnhaa
