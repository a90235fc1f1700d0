/- slices.EqualFunc of terms, with a function that changes objects. Maps: what is worked out of them. subst.Meet. subst.Meet, of all terms. clause.Covers, superposeref.CoversOf: what is plain. No program in sight. Substitutions, and clauses that subsume others: what is plain. No program in sight. Places of terms: what stands there, what is put there: what is plain. No program in sight. Variables numbered anew; what is tidied twice is tidied once: what is plain. No program in sight. The order of terms, in plain words; and that the tables which the program and the reference fill hold it. The order of terms: what holds of it. No program in sight. -/
import Derived.Test.YtmeekpinkfpnhaaB04
import Derived.Test.YtmeekpinkfpnhaaB05
import Derived.Test.YtmeekpinkfpnhaaB06
set_option linter.unusedSimpArgs false
set_option linter.unusedSectionVars false
set_option linter.unusedVariables false
set_option linter.unnecessarySimpa false
set_option linter.all false
namespace Go.Proofs.Ytmeekpinkfpnhaa
open Go.RowKit
def eqS {S : Type} (step : Tm → Tm → S → Bool × S) : List Tm → List Tm → S → Bool × S
  | x :: xs, y :: ys, s => if (step x y s).1 = true then eqS step xs ys (step x y s).2 else (false, (step x y s).2)
  | _, _, s => (true, s)
theorem eqS_go {S : Type} {step : Tm → Tm → S → Bool × S} {xs ys : List Tm} {i : Nat} (hi : i < xs.length) (hi' : i < ys.length) {s : S} (h : (step xs[i] ys[i] s).1 = true) : eqS step (xs.drop i) (ys.drop i) s = eqS step (xs.drop (i + 1)) (ys.drop (i + 1)) (step xs[i] ys[i] s).2 := by
  rw [List.drop_eq_getElem_cons hi, List.drop_eq_getElem_cons hi', eqS, if_pos h]
theorem eqS_stop {S : Type} {step : Tm → Tm → S → Bool × S} {xs ys : List Tm} {i : Nat} (hi : i < xs.length) (hi' : i < ys.length) {s : S} (h : (step xs[i] ys[i] s).1 = false) : eqS step (xs.drop i) (ys.drop i) s = (false, (step xs[i] ys[i] s).2) := by
  rw [List.drop_eq_getElem_cons hi, List.drop_eq_getElem_cons hi', eqS, if_neg (by rw [h]; simp)]
section
variable {S : Type} (O : S → Nm → Ob) (N : List Nm) (g : FuncId) (caps : List AV) (step : Tm → Tm → S → Bool × S) (hN : ∀ s (k : Nat), (∀ n ∈ N, n.1 < k) → Cl k N (O s)) (hg : enterOk Try.prog g)
include hN hg
set_option maxHeartbeats 1000000 in
set_option maxRecDepth 20000 in
theorem equalF_tri (xs ys : List Tm) (hl : xs.length ≤ 4000000) (hdo : ∀ x ∈ xs, ∀ y ∈ ys, ∀ s, Tri Try.prog g ([.d (tmDV x), .d (tmDV y)] ++ caps) (stE N (O s) (O (step x y s).2) (bA (step x y s).1))) (s : S) (r : Bool × S) (hr : r = if xs.length = ys.length then eqS step xs ys s else (false, s)) :
    Tri Try.prog 138 [.d (.sl (xs.map tmDV)), .d (.sl (ys.map tmDV)), .fn (.func g) [] caps] (stE N (O s) (O r.2) (bA r.1)) := by
  refine tri_enter_st Try.func138 rfl Try.ntmps138 (by simp only [List.length_cons, List.length_nil]; omega) fun w0 h0 k hag => ?_
  have hlt0 : ∀ n ∈ N, n.1 < k := fun n hn => (hag.get n hn).1
  cases h1 : ((xs.length : Int) != (ys.length : Int)) with
  | true =>
    rw [if_neg (by simp at h1; omega)] at hr
    subst hr
    have hcl := hN s k hlt0
    repeat' (first | refine awp_seq_k fun K hK => ?_ | ((first | refine awp_region_k (by kernel_rfl) fun R hR => ?_ | refine awp_draw mixed (by kernel_rfl) (by kernel_rfl) fun R hR => ?_); simp only [go_sem, h1]) | ((first | (refine hR _ ?_; clear hR R) | refine awp_skip ?_ | refine awp_exit ?_ | refine awp_ret ?_); try simp only [thenA, inBlockA, reduceIte, reduceCtorEq, Nat.reduceEqDiff, if_false, if_true]) | ((first | refine hK _ ?_ | (clear hK K; first | refine hK _ ?_ | (clear hK K; first | refine hK _ ?_ | (clear hK K; first | refine hK _ ?_ | (clear hK K; refine hK _ ?_))))); clear hK K) | refine awp_true rfl rfl ?_ | refine awp_false rfl rfl ?_ | refine awp_block ?_ | refine And.intro (by first | ((repeat' first | omega | exact trivial | rfl | assumption | (intro a e; subst e; rfl) | exact map_sz fun a => (by simp only [go_sem]) | refine And.intro ?_ ?_); done) | fail) ?_ | fail)
    refine ret_st (by simp only [Try.results138, resOkL, resOk, Try.ntmps138, List.toList_toArray]; first | decide | (simp only [go_sem]; done) | (simp only [go_sem]; and_intros <;> first | omega | rfl | decide)) ?_ (by repeat (first | assumption | exact Ag.stN (by assumption) _ _ | refine Ag.updk ?_ (by omega) _)) (by repeat (first | exact FrN.rfl' _ _ _ | assumption | refine FrN.updk ?_ (by omega) _ | refine FrN.stH ?_ _)) (by assumption)
    simp only [resA, resV, Try.results138, go_sem]
    all_goals try (first | exact .dat rfl | exact Co.t2 (.dat rfl) (.dat rfl) | exact Co.t3 (.dat rfl) (.dat rfl) (.dat rfl))
  | false =>
    have hll : xs.length = ys.length := by simp at h1; omega
    rw [if_pos hll] at hr
    repeat' (first | refine awp_seq_k fun K hK => ?_ | ((first | refine awp_region_k (by kernel_rfl) fun R hR => ?_ | refine awp_draw mixed (by kernel_rfl) (by kernel_rfl) fun R hR => ?_); simp only [go_sem, h1]) | ((first | (refine hR _ ?_; clear hR R) | refine awp_skip ?_ | refine awp_exit ?_ | refine awp_ret ?_); try simp only [thenA, inBlockA, reduceIte, reduceCtorEq, Nat.reduceEqDiff, if_false, if_true]) | ((first | refine hK _ ?_ | (clear hK K; first | refine hK _ ?_ | (clear hK K; first | refine hK _ ?_ | (clear hK K; first | refine hK _ ?_ | (clear hK K; refine hK _ ?_))))); clear hK K) | refine awp_true rfl rfl ?_ | refine awp_false rfl rfl ?_ | refine awp_block ?_ | refine And.intro (by first | ((repeat' first | omega | exact trivial | rfl | assumption | (intro a e; subst e; rfl) | exact map_sz fun a => (by simp only [go_sem]) | refine And.intro ?_ ?_); done) | fail) ?_ | fail)
    refine awp_loop (fun σ => ∃ (i : Nat) (si : S), σ.t 1 = .d (.sl (ys.map tmDV)) ∧ σ.t 2 = .fn (.func g) [] caps ∧ σ.t 15 = .d (.sl (xs.map tmDV)) ∧ σ.t 16 = iA xs.length ∧ σ.t 17 = iA i ∧ Ag k N (O si) σ.h ∧ FrN k N h0 σ.h ∧ k < σ.k ∧ i ≤ xs.length ∧ eqS step (xs.drop i) (ys.drop i) si = r) (fun σ => xs.length - (intOf' (σ.t 17)).toNat) ?_ ?_
    · refine ⟨0, s, ?_⟩
      simp only [go_sem, List.drop_zero]
      and_intros; all_goals try (first | rfl | omega | assumption | ((repeat (first | exact Fr.rfl' _ _ | assumption | refine Fr.updk ?_ (by omega) _)); done))
      all_goals first | exact hr.symm | exact FrN.rfl' _ _ _
    · rintro σ ⟨i, si, s1, s2, s15, s16, s17, hA, hF, hk, hi, hv⟩
      rcases Nat.lt_or_ge i xs.length with hlt | hge
      · have hlt' : i < ys.length := by omega
        have hz : (i : Int) < (xs.length : Int) := by omega
        have hz' : (i : Int) < (ys.length : Int) := by omega
        have e1 : (xs.map tmDV).getD i default = tmDV xs[i] := nth_map tmDV hlt _
        have e2 : (ys.map tmDV).getD i default = tmDV ys[i] := nth_map tmDV hlt' _
        have hN1 := notN hag (k' := σ.k + 1) (by omega)
        have hN2 := notN hag (k' := σ.k + 1 + 1) (by omega)
        have hT := hdo _ (List.getElem_mem hlt) _ (List.getElem_mem hlt') si
        have hcl := hN (step xs[i] ys[i] si).2 k hlt0
        cases h2 : (step xs[i] ys[i] si).1 with
        | true =>
          rw [h2] at hT
          rw [eqS_go hlt hlt' h2] at hv
          repeat' (first | refine awp_seq_k fun K hK => ?_ | ((first | refine awp_region_k (by kernel_rfl) fun R hR => ?_ | refine awp_draw mixed (by kernel_rfl) (by kernel_rfl) fun R hR => ?_); simp only [go_sem, s1, s2, s15, s16, s17, hz, hz', e1, e2, hN1, hN2, Int.toNat_natCast]) | ((first | (refine hR _ ?_; clear hR R) | refine awp_skip ?_ | refine awp_exit ?_ | refine awp_ret ?_); try simp only [thenA, inBlockA, reduceIte, reduceCtorEq, Nat.reduceEqDiff, if_false, if_true]) | ((first | refine hK _ ?_ | (clear hK K; first | refine hK _ ?_ | (clear hK K; first | refine hK _ ?_ | (clear hK K; first | refine hK _ ?_ | (clear hK K; refine hK _ ?_))))); clear hK K) | refine awp_true rfl rfl ?_ | refine awp_false rfl rfl ?_ | refine awp_block ?_ | ((first | refine CallK.vchg rfl (hg) (hT) ?_ (by assumption) (by repeat (first | exact Fr.rfl' _ _ | assumption | refine Fr.updk ?_ (by omega) _)) ?_ | refine CallD.vchg rfl (hg) (hT) ?_ (by assumption) (by repeat (first | exact Fr.rfl' _ _ | assumption | refine Fr.updk ?_ (by omega) _)) (by assumption) ?_); (focus first | ((repeat (first | exact trivial | refine ⟨(by first | exact Or.inl rfl | exact Or.inr rfl), ?_⟩)); done) | (simp only [coL, AV.dat, true_or, or_true, AV.d.injEq, go_sem]; done)); simp only [go_sem, s1, s2, s15, s16, s17, hz, hz', e1, e2, hN1, hN2, Int.toNat_natCast]) | refine And.intro (by first | ((repeat' first | omega | exact trivial | rfl | assumption | (intro a e; subst e; rfl) | exact map_sz fun a => (by simp only [go_sem]) | refine And.intro ?_ ?_); done) | fail) ?_ | fail)
          refine ⟨⟨i + 1, (step xs[i] ys[i] si).2, ?_⟩, ?_⟩
          · simp only [go_sem, s1, s2, s15, s16, s17]
            and_intros; all_goals try (first | rfl | omega | assumption | ((repeat (first | exact Fr.rfl' _ _ | assumption | refine Fr.updk ?_ (by omega) _)); done))
            · exact (by repeat (first | assumption | exact Ag.stN (by assumption) _ _ | refine Ag.updk ?_ (by omega) _))
            · exact (by repeat (first | exact FrN.rfl' _ _ _ | assumption | refine FrN.updk ?_ (by omega) _ | refine FrN.stH ?_ _))
          · simp only [go_sem, s17]; omega
        | false =>
          rw [h2] at hT
          rw [eqS_stop hlt hlt' h2] at hv
          subst hv
          dsimp only
          repeat' (first | refine awp_seq_k fun K hK => ?_ | ((first | refine awp_region_k (by kernel_rfl) fun R hR => ?_ | refine awp_draw mixed (by kernel_rfl) (by kernel_rfl) fun R hR => ?_); simp only [go_sem, s1, s2, s15, s16, s17, hz, hz', e1, e2, hN1, hN2, Int.toNat_natCast]) | ((first | (refine hR _ ?_; clear hR R) | refine awp_skip ?_ | refine awp_exit ?_ | refine awp_ret ?_); try simp only [thenA, inBlockA, reduceIte, reduceCtorEq, Nat.reduceEqDiff, if_false, if_true]) | ((first | refine hK _ ?_ | (clear hK K; first | refine hK _ ?_ | (clear hK K; first | refine hK _ ?_ | (clear hK K; first | refine hK _ ?_ | (clear hK K; refine hK _ ?_))))); clear hK K) | refine awp_true rfl rfl ?_ | refine awp_false rfl rfl ?_ | refine awp_block ?_ | ((first | refine CallK.vchg rfl (hg) (hT) ?_ (by assumption) (by repeat (first | exact Fr.rfl' _ _ | assumption | refine Fr.updk ?_ (by omega) _)) ?_ | refine CallD.vchg rfl (hg) (hT) ?_ (by assumption) (by repeat (first | exact Fr.rfl' _ _ | assumption | refine Fr.updk ?_ (by omega) _)) (by assumption) ?_); (focus first | ((repeat (first | exact trivial | refine ⟨(by first | exact Or.inl rfl | exact Or.inr rfl), ?_⟩)); done) | (simp only [coL, AV.dat, true_or, or_true, AV.d.injEq, go_sem]; done)); simp only [go_sem, s1, s2, s15, s16, s17, hz, hz', e1, e2, hN1, hN2, Int.toNat_natCast]) | refine And.intro (by first | ((repeat' first | omega | exact trivial | rfl | assumption | (intro a e; subst e; rfl) | exact map_sz fun a => (by simp only [go_sem]) | refine And.intro ?_ ?_); done) | fail) ?_ | fail)
          refine ret_st (by simp only [Try.results138, resOkL, resOk, Try.ntmps138, List.toList_toArray]; first | decide | (simp only [go_sem]; done) | (simp only [go_sem]; and_intros <;> first | omega | rfl | decide)) ?_ (by repeat (first | assumption | exact Ag.stN (by assumption) _ _ | refine Ag.updk ?_ (by omega) _)) (by repeat (first | exact FrN.rfl' _ _ _ | assumption | refine FrN.updk ?_ (by omega) _ | refine FrN.stH ?_ _)) (by assumption)
          simp only [resA, resV, Try.results138, go_sem]
          all_goals try (first | exact .dat rfl | exact Co.t2 (.dat rfl) (.dat rfl) | exact Co.t3 (.dat rfl) (.dat rfl) (.dat rfl))
      · have hz : ¬ ((i : Int) < (xs.length : Int)) := by omega
        have hv' : r = (true, si) := by rw [← hv, List.drop_eq_nil_of_le hge]; rfl
        have hcl := hN si k hlt0
        repeat' (first | refine awp_seq_k fun K hK => ?_ | ((first | refine awp_region_k (by kernel_rfl) fun R hR => ?_ | refine awp_draw mixed (by kernel_rfl) (by kernel_rfl) fun R hR => ?_); simp only [go_sem, s16, s17, hz]) | ((first | (refine hR _ ?_; clear hR R) | refine awp_skip ?_ | refine awp_exit ?_ | refine awp_ret ?_); try simp only [thenA, inBlockA, reduceIte, reduceCtorEq, Nat.reduceEqDiff, if_false, if_true]) | ((first | refine hK _ ?_ | (clear hK K; first | refine hK _ ?_ | (clear hK K; first | refine hK _ ?_ | (clear hK K; first | refine hK _ ?_ | (clear hK K; refine hK _ ?_))))); clear hK K) | refine awp_true rfl rfl ?_ | refine awp_false rfl rfl ?_ | refine awp_block ?_ | refine And.intro (by first | ((repeat' first | omega | exact trivial | rfl | assumption | (intro a e; subst e; rfl) | exact map_sz fun a => (by simp only [go_sem]) | refine And.intro ?_ ?_); done) | fail) ?_ | fail)
        rw [hv']
        dsimp only
        refine ret_st (by simp only [Try.results138, resOkL, resOk, Try.ntmps138, List.toList_toArray]; first | decide | (simp only [go_sem]; done) | (simp only [go_sem]; and_intros <;> first | omega | rfl | decide)) ?_ (by repeat (first | assumption | exact Ag.stN (by assumption) _ _ | refine Ag.updk ?_ (by omega) _)) (by repeat (first | exact FrN.rfl' _ _ _ | assumption | refine FrN.updk ?_ (by omega) _ | refine FrN.stH ?_ _)) (by assumption)
        simp only [resA, resV, Try.results138, go_sem]
        all_goals try (first | exact .dat rfl | exact Co.t2 (.dat rfl) (.dat rfl) | exact Co.t3 (.dat rfl) (.dat rfl) (.dat rfl))
end
theorem meetL_eqS (xs ys : List Tm) (b : Bs) : meetL xs ys b = eqS meet xs ys b := by
  induction xs generalizing ys b with
  | nil => cases ys <;> rfl
  | cons x xs ih =>
    cases ys with
    | nil => rfl
    | cons y ys => rw [meetL, eqS, ih]
end Go.Proofs.Ytmeekpinkfpnhaa
namespace Go.Proofs.Ytmeekpinkfpnhaa
open Go.RowKit
attribute [go_sem] effLook okLook effPut okPut askM mapEs isMapO isNilM isI64
@[go_sem] theorem mapTii : mapT Try.prog 104 = some 3 := by kernel_rfl
@[go_sem] theorem zeroDi : zeroD Try.prog 3 = .d (.v (.int .i64 0)) := by kernel_rfl
theorem getM_put (k k' : Int) (x : DV) : ∀ es : List (Int × DV), getM k' (putM k x es) = if k' = k then some x else getM k' es
  | [] => by
    unfold putM
    simp only [getM]
  | p :: m => by
    unfold putM
    by_cases h : k = p.1
    · rw [if_pos h]
      simp only [getM]
      by_cases h2 : k' = k
      · rw [if_pos h2, if_pos h2]
      · rw [if_neg h2, if_neg h2, if_neg (by rw [← h]; exact h2)]
    · rw [if_neg h]
      simp only [getM]
      rw [getM_put k k' x m]
      by_cases h2 : k' = p.1
      · rw [if_pos h2, if_pos h2, if_neg (by rintro rfl; exact h h2)]
      · rw [if_neg h2, if_neg h2]
end Go.Proofs.Ytmeekpinkfpnhaa
namespace Go.Proofs.Ytmeekpinkfpnhaa
open Go.RowKit
@[go_sem] theorem mapTit : mapT Try.prog 142 = some 27 := by kernel_rfl
@[go_sem] theorem zeroDt : zeroD Try.prog 27 = .st [.d (.v (.int .i64 0)), .d (.v (.int .i64 0)), .nil] := by kernel_rfl
def bsE (b : Bs) : List (Int × DV) := b.map fun p => (p.1, tmDV p.2)
theorem getM_bs (v : Int) (b : Bs) : getM v (bsE b) = (lookB v b).map tmDV := by
  induction b with
  | nil => rfl
  | cons p b ih =>
    simp only [bsE, List.map_cons, getM, lookB] at ih ⊢
    by_cases h : v = p.1
    · rw [if_pos h, if_pos h]; rfl
    · rw [if_neg h, if_neg h]; exact ih
theorem putM_bs {v : Int} {b : Bs} (h : lookB v b = none) (t : Tm) : putM v (tmDV t) (bsE b) = bsE (b ++ [(v, t)]) := by
  induction b with
  | nil => rfl
  | cons p b ih =>
    rw [lookB] at h
    by_cases hv : v = p.1
    · rw [if_pos hv] at h; cases h
    · rw [if_neg hv] at h
      have := ih h
      simp only [bsE, List.map_cons, List.cons_append, putM] at this ⊢
      rw [if_neg hv, this]
def mtO (b : Bs) (_ : Nm) : Ob := .map (bsE b)
def mtO2 (bx : Nm) (mm : Nm) (b : Bs) (x : Nm) : Ob := if x = bx then .cells 142 [.map mm] else .map (bsE b)
theorem mtO_cl (mm : Nm) (b : Bs) (k : Nat) : Cl k [mm] (mtO b) := by
  intro n _ x hx; simp [mtO, Ob.names] at hx
theorem mtO2_cl (bx mm : Nm) (b : Bs) (k : Nat) (h : ∀ n ∈ [bx, mm], n.1 < k) : Cl k [bx, mm] (mtO2 bx mm b) := by
  intro n _ x hx
  unfold mtO2 at hx
  split at hx
  · simp [Ob.names, namesL, AV.names] at hx; rw [hx]; exact h mm (by simp)
  · simp [Ob.names] at hx
def MeetSpec (p : Tm) : Prop := ∀ (t : Tm) (mm : Nm) (b : Bs), Tri Try.prog 141 [.map mm, .d (tmDV p), .d (tmDV t)] (stE [mm] (mtO b) (mtO (meet p t b).2) (bA (meet p t b).1))
set_option maxRecDepth 20000 in
theorem meet1_tri {p : Tm} (ih : MeetSpec p) (t : Tm) {bx mm : Nm} (hbm : bx ≠ mm) (b : Bs) : Tri Try.prog 158 [.d (tmDV p), .d (tmDV t), .ptr bx 0] (stE [bx, mm] (mtO2 bx mm b) (mtO2 bx mm (meet p t b).2) (bA (meet p t b).1)) := by
  refine tri_enter_st Try.func158 rfl Try.ntmps158 (by simp only [List.length_cons, List.length_nil]; omega) fun w0 h0 k hag => ?_
  obtain ⟨hb, eb⟩ := hag.get bx (by simp)
  obtain ⟨hm, em⟩ := hag.get mm (by simp)
  have e1 : mtO2 bx mm b bx = .cells 142 [.map mm] := by simp [mtO2]
  have e2 : mtO2 bx mm b mm = .map (bsE b) := by simp [mtO2, Ne.symm hbm]
  rw [e1] at eb
  rw [e2] at em
  have nb := nmne hb
  have hA : Ag k [mm] (mtO b) h0 := ⟨fun n hn => by simp at hn; subst hn; exact ⟨hm, em⟩⟩
  repeat' (first | refine awp_seq_k fun K hK => ?_ | ((first | refine awp_region_k (by kernel_rfl) fun R hR => ?_ | refine awp_draw mixed (by kernel_rfl) (by kernel_rfl) fun R hR => ?_); simp only [go_sem, eb, nb]) | ((first | (refine hR _ ?_; clear hR R) | refine awp_skip ?_ | refine awp_exit ?_ | refine awp_ret ?_); try simp only [thenA, inBlockA, reduceIte, reduceCtorEq, Nat.reduceEqDiff, if_false, if_true]) | ((first | refine hK _ ?_ | (clear hK K; first | refine hK _ ?_ | (clear hK K; first | refine hK _ ?_ | (clear hK K; first | refine hK _ ?_ | (clear hK K; refine hK _ ?_))))); clear hK K) | refine awp_true rfl rfl ?_ | refine awp_false rfl rfl ?_ | refine awp_block ?_ | ((first | refine CallK.chg (enter141) (ih t mm b) ?_ (by assumption) (by repeat (first | exact Fr.rfl' _ _ | assumption | refine Fr.updk ?_ (by omega) _)) ?_ | refine CallD.chg (enter141) (ih t mm b) ?_ (by assumption) (by repeat (first | exact Fr.rfl' _ _ | assumption | refine Fr.updk ?_ (by omega) _)) (by assumption) ?_); (focus first | ((repeat (first | exact trivial | refine ⟨(by first | exact Or.inl rfl | exact Or.inr rfl), ?_⟩)); done) | (simp only [coL, AV.dat, true_or, or_true, AV.d.injEq, go_sem]; done)); simp only [go_sem, eb, nb]) | refine And.intro (by first | ((repeat' first | omega | exact trivial | rfl | assumption | (intro a e; subst e; rfl) | exact map_sz fun a => (by simp only [go_sem]) | refine And.intro ?_ ?_); done) | fail) ?_ | fail)
  refine ret_st (by simp only [Try.results158, resOkL, resOk, Try.ntmps158, List.toList_toArray]; first | decide | (simp only [go_sem]; done) | (simp only [go_sem]; and_intros <;> first | omega | rfl | decide)) (by simp only [resA, resV, Try.results158, go_sem]; first | exact .dat rfl | exact Co.t2 (.dat rfl) (.dat rfl) | exact Co.t3 (.dat rfl) (.dat rfl) (.dat rfl)) ?_ ?_ ?_
  · refine ⟨fun n hn => ⟨(hag.get n hn).1, ?_⟩⟩
    simp only [List.mem_cons, List.not_mem_nil, or_false] at hn
    rcases hn with h | h
    · rw [h]
      have e3 : mtO2 bx mm (meet p t b).2 bx = .cells 142 [.map mm] := by simp [mtO2]
      rw [e3]
      simp only [go_sem, nb, eb, hbm]
    · rw [h]
      have e3 : mtO2 bx mm (meet p t b).2 mm = .map (bsE (meet p t b).2) := by simp [mtO2, Ne.symm hbm]
      rw [e3]
      simp only [go_sem, mtO]
  · intro x hx hxn
    have hxm : x ∉ [mm] := fun h => hxn (by simp at h; simp [h])
    show stH _ _ _ x = _
    rw [stH_get, if_neg hxm]
    exact ((by repeat (first | exact FrN.rfl' _ _ _ | assumption | refine FrN.updk ?_ (by omega) _ | refine FrN.stH ?_ _)) : FrN k [bx, mm] h0 _) x hx hxn
  · exact mtO2_cl bx mm _ k fun n hn => (hag.get n hn).1
set_option maxHeartbeats 2000000 in
set_option maxRecDepth 20000 in
theorem meet_step (p : Tm) (hp : p.us.length ≤ 4000000) (ih : ∀ u ∈ p.us, MeetSpec u) : MeetSpec p := by
  intro t mm b
  rw [meet_eq]
  refine tri_enter_st Try.func141 rfl Try.ntmps141 (by simp only [List.length_cons, List.length_nil]; omega) fun w0 h0 k hag => ?_
  obtain ⟨hm, em⟩ := hag.get mm (by simp)
  have em : h0 mm = some (.map (bsE b)) := em
  have nm := nmne hm
  cases hv : decide (p.v > 0) with
  | true =>
    have hv' : p.v > 0 := by simpa using hv
    rw [if_pos hv']
    cases hb : lookB p.v b with
    | some u =>
      have hg : getM p.v (bsE b) = some (tmDV u) := by rw [getM_bs, hb]; rfl
      have hcl := mtO_cl mm b k
      dsimp only
      repeat' (first | refine awp_seq_k fun K hK => ?_ | ((first | refine awp_region_k (by kernel_rfl) fun R hR => ?_ | refine awp_draw mixed (by kernel_rfl) (by kernel_rfl) fun R hR => ?_); simp only [go_sem, em, nm, hv, hg, Option.isSome_some]) | ((first | (refine hR _ ?_; clear hR R) | refine awp_skip ?_ | refine awp_exit ?_ | refine awp_ret ?_); try simp only [thenA, inBlockA, reduceIte, reduceCtorEq, Nat.reduceEqDiff, if_false, if_true]) | ((first | refine hK _ ?_ | (clear hK K; first | refine hK _ ?_ | (clear hK K; first | refine hK _ ?_ | (clear hK K; first | refine hK _ ?_ | (clear hK K; refine hK _ ?_))))); clear hK K) | refine awp_true rfl rfl ?_ | refine awp_false rfl rfl ?_ | refine awp_block ?_ | ((first | refine CallK.pure (enter116) (same_tri u t) ?_ ?_ | refine CallD.pure (enter116) (same_tri u t) ?_ ?_); (focus first | ((repeat (first | exact trivial | refine ⟨(by first | exact Or.inl rfl | exact Or.inr rfl), ?_⟩)); done) | (simp only [coL, AV.dat, true_or, or_true, AV.d.injEq, go_sem]; done)); simp only [go_sem, em, nm, hv, hg, Option.isSome_some]) | refine And.intro (by first | ((repeat' first | omega | exact trivial | rfl | assumption | (intro a e; subst e; rfl) | exact map_sz fun a => (by simp only [go_sem]) | refine And.intro ?_ ?_); done) | fail) ?_ | fail)
      refine ret_st (by simp only [Try.results141, resOkL, resOk, Try.ntmps141, List.toList_toArray]; first | decide | (simp only [go_sem]; done) | (simp only [go_sem]; and_intros <;> first | omega | rfl | decide)) ?_ (by repeat (first | assumption | exact Ag.stN (by assumption) _ _ | refine Ag.updk ?_ (by omega) _)) (by repeat (first | exact FrN.rfl' _ _ _ | assumption | refine FrN.updk ?_ (by omega) _ | refine FrN.stH ?_ _)) (by assumption)
      simp only [resA, resV, Try.results141, go_sem]
      all_goals try (first | exact .dat rfl | exact Co.t2 (.dat rfl) (.dat rfl) | exact Co.t3 (.dat rfl) (.dat rfl) (.dat rfl))
    | none =>
      have hg : getM p.v (bsE b) = none := by rw [getM_bs, hb]; rfl
      have hpm := putM_bs hb t
      have hcl := mtO_cl mm (b ++ [(p.v, t)]) k
      dsimp only
      repeat' (first | refine awp_seq_k fun K hK => ?_ | ((first | refine awp_region_k (by kernel_rfl) fun R hR => ?_ | refine awp_draw mixed (by kernel_rfl) (by kernel_rfl) fun R hR => ?_); simp only [go_sem, em, nm, hv, hg, hpm, Option.isSome_none, AV.toD, Option.getD_none]) | ((first | (refine hR _ ?_; clear hR R) | refine awp_skip ?_ | refine awp_exit ?_ | refine awp_ret ?_); try simp only [thenA, inBlockA, reduceIte, reduceCtorEq, Nat.reduceEqDiff, if_false, if_true]) | ((first | refine hK _ ?_ | (clear hK K; first | refine hK _ ?_ | (clear hK K; first | refine hK _ ?_ | (clear hK K; first | refine hK _ ?_ | (clear hK K; refine hK _ ?_))))); clear hK K) | refine awp_true rfl rfl ?_ | refine awp_false rfl rfl ?_ | refine awp_block ?_ | refine And.intro (by first | ((repeat' first | omega | exact trivial | rfl | assumption | (intro a e; subst e; rfl) | exact map_sz fun a => (by simp only [go_sem]) | refine And.intro ?_ ?_); done) | fail) ?_ | fail)
      refine ret_st (by simp only [Try.results141, resOkL, resOk, Try.ntmps141, List.toList_toArray]; first | decide | (simp only [go_sem]; done) | (simp only [go_sem]; and_intros <;> first | omega | rfl | decide)) (by simp only [resA, resV, Try.results141, go_sem]; first | exact .dat rfl | exact Co.t2 (.dat rfl) (.dat rfl) | exact Co.t3 (.dat rfl) (.dat rfl) (.dat rfl)) ?_ ?_ ?_
      · refine ⟨fun n hn => ⟨(hag.get n hn).1, ?_⟩⟩
        simp only [List.mem_cons, List.not_mem_nil, or_false] at hn
        subst hn
        simp only [go_sem, nm, mtO]
      · refine FrN.updn (by repeat (first | exact FrN.rfl' _ _ _ | assumption | refine FrN.updk ?_ (by omega) _ | refine FrN.stH ?_ _)) (by simp) _
      · exact hcl
  | false =>
    have hv' : ¬ p.v > 0 := by simpa using hv
    rw [if_neg hv']
    cases h1 : t.v == 0 with
    | false =>
      have hcl := mtO_cl mm b k
      rw [if_neg (by intro h; simp at h1; exact h1 h.1)]
      repeat' (first | refine awp_seq_k fun K hK => ?_ | ((first | refine awp_region_k (by kernel_rfl) fun R hR => ?_ | refine awp_draw mixed (by kernel_rfl) (by kernel_rfl) fun R hR => ?_); simp only [go_sem, em, nm, hv, h1]) | ((first | (refine hR _ ?_; clear hR R) | refine awp_skip ?_ | refine awp_exit ?_ | refine awp_ret ?_); try simp only [thenA, inBlockA, reduceIte, reduceCtorEq, Nat.reduceEqDiff, if_false, if_true]) | ((first | refine hK _ ?_ | (clear hK K; first | refine hK _ ?_ | (clear hK K; first | refine hK _ ?_ | (clear hK K; first | refine hK _ ?_ | (clear hK K; refine hK _ ?_))))); clear hK K) | refine awp_true rfl rfl ?_ | refine awp_false rfl rfl ?_ | refine awp_block ?_ | refine And.intro (by first | ((repeat' first | omega | exact trivial | rfl | assumption | (intro a e; subst e; rfl) | exact map_sz fun a => (by simp only [go_sem]) | refine And.intro ?_ ?_); done) | fail) ?_ | fail)
      refine ret_st (by simp only [Try.results141, resOkL, resOk, Try.ntmps141, List.toList_toArray]; first | decide | (simp only [go_sem]; done) | (simp only [go_sem]; and_intros <;> first | omega | rfl | decide)) ?_ (by repeat (first | assumption | exact Ag.stN (by assumption) _ _ | refine Ag.updk ?_ (by omega) _)) (by repeat (first | exact FrN.rfl' _ _ _ | assumption | refine FrN.updk ?_ (by omega) _ | refine FrN.stH ?_ _)) (by assumption)
      simp only [resA, resV, Try.results141, go_sem]
      all_goals try (first | exact .dat rfl | exact Co.t2 (.dat rfl) (.dat rfl) | exact Co.t3 (.dat rfl) (.dat rfl) (.dat rfl))
    | true =>
      cases h2 : p.f == t.f with
      | false =>
        have hcl := mtO_cl mm b k
        rw [if_neg (by intro h; simp at h2; exact h2 h.2.1)]
        repeat' (first | refine awp_seq_k fun K hK => ?_ | ((first | refine awp_region_k (by kernel_rfl) fun R hR => ?_ | refine awp_draw mixed (by kernel_rfl) (by kernel_rfl) fun R hR => ?_); simp only [go_sem, em, nm, hv, h1, h2]) | ((first | (refine hR _ ?_; clear hR R) | refine awp_skip ?_ | refine awp_exit ?_ | refine awp_ret ?_); try simp only [thenA, inBlockA, reduceIte, reduceCtorEq, Nat.reduceEqDiff, if_false, if_true]) | ((first | refine hK _ ?_ | (clear hK K; first | refine hK _ ?_ | (clear hK K; first | refine hK _ ?_ | (clear hK K; first | refine hK _ ?_ | (clear hK K; refine hK _ ?_))))); clear hK K) | refine awp_true rfl rfl ?_ | refine awp_false rfl rfl ?_ | refine awp_block ?_ | refine And.intro (by first | ((repeat' first | omega | exact trivial | rfl | assumption | (intro a e; subst e; rfl) | exact map_sz fun a => (by simp only [go_sem]) | refine And.intro ?_ ?_); done) | fail) ?_ | fail)
        refine ret_st (by simp only [Try.results141, resOkL, resOk, Try.ntmps141, List.toList_toArray]; first | decide | (simp only [go_sem]; done) | (simp only [go_sem]; and_intros <;> first | omega | rfl | decide)) ?_ (by repeat (first | assumption | exact Ag.stN (by assumption) _ _ | refine Ag.updk ?_ (by omega) _)) (by repeat (first | exact FrN.rfl' _ _ _ | assumption | refine FrN.updk ?_ (by omega) _ | refine FrN.stH ?_ _)) (by assumption)
        simp only [resA, resV, Try.results141, go_sem]
        all_goals try (first | exact .dat rfl | exact Co.t2 (.dat rfl) (.dat rfl) | exact Co.t3 (.dat rfl) (.dat rfl) (.dat rfl))
      | true =>
        have hm2 : mm ≠ (k, 0) := fun e => by rw [e] at hm; simp at hm
        obtain ⟨r, hr⟩ : ∃ r : Bool × Bs, r = if p.us.length = t.us.length then eqS meet p.us t.us b else (false, b) := ⟨_, rfl⟩
        have hr' : (if t.v = 0 ∧ p.f = t.f ∧ p.us.length = t.us.length then meetL p.us t.us b else (false, b)) = r := by
          rw [hr, ← meetL_eqS]
          by_cases h3 : p.us.length = t.us.length
          · rw [if_pos h3, if_pos ⟨by simpa using h1, by simpa using h2, h3⟩]
          · rw [if_neg h3, if_neg (fun h => h3 h.2.2)]
        rw [hr']
        have he := equalF_tri (mtO2 (k, 0) mm) [(k, 0), mm] 158 [.ptr (k, 0) 0] meet (mtO2_cl (k, 0) mm) (enter158) p.us t.us hp (fun x hx y _ s => meet1_tri (ih x hx) y (Ne.symm hm2) s) b r hr
        have hcl := mtO_cl mm r.2 k
        have hA2 : ∀ h : Heap, h (k, 0) = some (.cells 142 [.map mm]) → h mm = some (.map (bsE b)) → Ag (k + 1) [(k, 0), mm] (mtO2 (k, 0) mm b) h := fun h e1 e2 => ⟨fun n hn => by
          simp only [List.mem_cons, List.not_mem_nil, or_false] at hn
          rcases hn with h3 | h3
          · rw [h3]; exact ⟨Nat.lt_succ_self k, by rw [e1]; simp [mtO2]⟩
          · rw [h3]; exact ⟨Nat.lt_succ_of_lt hm, by rw [e2]; simp [mtO2, hm2]⟩⟩
        repeat' (first | refine awp_seq_k fun K hK => ?_ | ((first | refine awp_region_k (by kernel_rfl) fun R hR => ?_ | refine awp_draw mixed (by kernel_rfl) (by kernel_rfl) fun R hR => ?_); simp only [go_sem, em, nm, hv, h1, h2]) | ((first | (refine hR _ ?_; clear hR R) | refine awp_skip ?_ | refine awp_exit ?_ | refine awp_ret ?_); try simp only [thenA, inBlockA, reduceIte, reduceCtorEq, Nat.reduceEqDiff, if_false, if_true]) | ((first | refine hK _ ?_ | (clear hK K; first | refine hK _ ?_ | (clear hK K; first | refine hK _ ?_ | (clear hK K; first | refine hK _ ?_ | (clear hK K; refine hK _ ?_))))); clear hK K) | refine awp_true rfl rfl ?_ | refine awp_false rfl rfl ?_ | refine awp_block ?_ | ((first | refine CallK.chg (enter138) (he) ?_ (hA2 _ (by simp only [go_sem, nm]) (by simp only [go_sem, em, nm])) (Fr.rfl' _ _) ?_ | refine CallD.chg (enter138) (he) ?_ (hA2 _ (by simp only [go_sem, nm]) (by simp only [go_sem, em, nm])) (Fr.rfl' _ _) (by first | assumption | exact List.cons_ne_nil _ _) ?_); (focus first | ((repeat (first | exact trivial | refine ⟨(by first | exact Or.inl rfl | exact Or.inr rfl), ?_⟩)); done) | (simp only [coL, AV.dat, true_or, or_true, AV.d.injEq, go_sem]; done)); simp only [go_sem, em, nm, hv, h1, h2]) | refine And.intro (by first | ((repeat' first | omega | exact trivial | rfl | assumption | (intro a e; subst e; rfl) | exact map_sz fun a => (by simp only [go_sem]) | refine And.intro ?_ ?_); done) | fail) ?_ | fail)
        refine ret_st (by simp only [Try.results141, resOkL, resOk, Try.ntmps141, List.toList_toArray]; first | decide | (simp only [go_sem]; done) | (simp only [go_sem]; and_intros <;> first | omega | rfl | decide)) (by simp only [resA, resV, Try.results141, go_sem]; first | exact .dat rfl | exact Co.t2 (.dat rfl) (.dat rfl) | exact Co.t3 (.dat rfl) (.dat rfl) (.dat rfl)) ?_ ?_ ?_
        · refine ⟨fun n hn => ⟨(hag.get n hn).1, ?_⟩⟩
          simp only [List.mem_cons, List.not_mem_nil, or_false] at hn
          subst hn
          have e3 : mtO2 (k, 0) n r.2 n = .map (bsE r.2) := by simp [mtO2, hm2]
          simp only [go_sem, mtO, e3]
        · intro x hx hxn
          have hxm : x ∉ [(k, 0), mm] := fun h => by
            simp at h hxn
            rcases h with h | h
            · rw [h] at hx; simp at hx
            · exact hxn h
          show stH _ _ _ x = _
          rw [stH_get, if_neg hxm]
          exact ((by repeat (first | exact FrN.rfl' _ _ _ | assumption | refine FrN.updk ?_ (by omega) _ | refine FrN.stH ?_ _)) : FrN k [mm] h0 _) x hx hxn
        · exact hcl
end Go.Proofs.Ytmeekpinkfpnhaa
namespace Go.Proofs.Ytmeekpinkfpnhaa
open Go.RowKit
theorem size_us {p u : Tm} (h : u ∈ p.us) : u.size ≤ p.size := by
  obtain ⟨i, hi, rfl⟩ := List.getElem_of_mem h
  exact Nat.le_of_lt (Tm.size_at hi)
theorem meet_tri : ∀ (p : Tm), p.size ≤ 4000000 → MeetSpec p := by
  refine Tm.ind fun p ih hp => ?_
  have := p.len_lt
  exact meet_step p (by omega) fun u hu => ih u hu (by have := size_us hu; omega)
theorem agM {mm : Nm} {b : Bs} (h : Heap) (e : h mm = some (.map (bsE b))) : Ag (mm.1 + 1) [mm] (mtO b) h := ⟨fun n hn => by
  simp only [List.mem_cons, List.not_mem_nil, or_false] at hn; subst hn; exact ⟨Nat.lt_succ_self _, e⟩⟩
theorem roM {mm : Nm} {b : Bs} (h : Heap) (e : h mm = some (.map (bsE b))) : RoOK (mm.1 + 1) [(mm, .map (bsE b))] h := ⟨fun n hn => by
  simp only [List.mem_cons, List.not_mem_nil, or_false] at hn; subst hn; exact ⟨Nat.lt_succ_self _, e⟩⟩
end Go.Proofs.Ytmeekpinkfpnhaa
namespace Go.Proofs.Ytmeekpinkfpnhaa
theorem any_same {α : Type} {f g : α → Bool} : ∀ {l : List α}, (∀ x ∈ l, f x = g x) → l.any f = l.any g
  | [], _ => rfl
  | a :: l, h => by rw [List.any_cons, List.any_cons, h a (by simp), any_same fun x hx => h x (by simp [hx])]
def turnL (x : Lt) : Lt := ⟨x.y, x.b, x.a⟩
section
variable (f : Tm → Tm → Bs → Bool × Bs)
def tryG (l x : Lt) (b : Bs) : Bool × Bs := if (f l.a x.a b).1 = true then f l.b x.b (f l.a x.a b).2 else (false, (f l.a x.a b).2)
def covG : List Lt → List Lt → Bs → Bool
  | [], _, _ => true
  | l :: c, d, b => d.any fun x => (x.y == l.y) && (((tryG f l x b).1 && covG c d (tryG f l x b).2) || ((tryG f l (turnL x) b).1 && covG c d (tryG f l (turnL x) b).2))
end
theorem tryG_eq (l x : Lt) (b : Bs) (h1 : ∀ z ∈ parts x.a, 0 ≤ z.v) (h2 : ∀ z ∈ parts x.b, 0 ≤ z.v) : (tryG meet l x b).1 = (tryG grow l x b).1 ∧ ((tryG meet l x b).1 = true → (tryG meet l x b).2 = (tryG grow l x b).2) := by
  obtain ⟨a1, a2⟩ := meet_grow l.a x.a b h1
  unfold tryG
  rw [← a1]
  by_cases hc : (meet l.a x.a b).1 = true
  · rw [if_pos hc, if_pos hc, a2 hc]
    exact meet_grow l.b x.b _ h2
  · rw [if_neg hc, if_neg hc]; exact ⟨rfl, fun h => by cases h⟩
theorem covG_eq : ∀ (c d : List Lt) (b : Bs), (∀ x ∈ d, (∀ z ∈ parts x.a, 0 ≤ z.v) ∧ ∀ z ∈ parts x.b, 0 ≤ z.v) → covG meet c d b = covG grow c d b
  | [], _, _, _ => rfl
  | l :: c, d, b, h => by
    have key : ∀ x : Lt, (∀ z ∈ parts x.a, 0 ≤ z.v) → (∀ z ∈ parts x.b, 0 ≤ z.v) → ((tryG meet l x b).1 && covG meet c d (tryG meet l x b).2) = ((tryG grow l x b).1 && covG grow c d (tryG grow l x b).2) := by
      intro x h1 h2
      obtain ⟨a1, a2⟩ := tryG_eq l x b h1 h2
      rw [← a1]
      cases hc : (tryG meet l x b).1 with
      | false => rfl
      | true => rw [a2 hc, covG_eq c d _ h]
    rw [covG, covG]
    refine any_same fun x hx => ?_
    obtain ⟨h1, h2⟩ := h x hx
    rw [key x h1 h2, key (turnL x) h2 h1]
theorem tryG_len {l x : Lt} {b : Bs} (h : (tryG grow l x b).1 = true) : (tryG grow l x b).2.length ≤ b.length + (l.a.size + l.b.size) := by
  unfold tryG at h ⊢
  by_cases hc : (grow l.a x.a b).1 = true
  · rw [if_pos hc]
    have := grow_len l.a x.a b
    have := grow_len l.b x.b (grow l.a x.a b).2
    omega
  · rw [if_neg hc] at h; cases h
def szC (c : List Lt) : Nat := (c.map fun l => l.a.size + l.b.size).sum
end Go.Proofs.Ytmeekpinkfpnhaa
namespace Go.Proofs.Ytmeekpinkfpnhaa
mutual
def sub (σ : Int → Tm) : Tm → Tm
  | .mk v f us => if v > 0 then σ v else .mk v f (subL σ us)
def subL (σ : Int → Tm) : List Tm → List Tm
  | [] => []
  | x :: xs => sub σ x :: subL σ xs
end
theorem sub_eq (σ : Int → Tm) (t : Tm) : sub σ t = if t.v > 0 then σ t.v else .mk t.v t.f (subL σ t.us) := by cases t; rw [sub]; rfl
theorem subL_map (σ : Int → Tm) (us : List Tm) : subL σ us = us.map (sub σ) := by
  induction us with
  | nil => rfl
  | cons x xs ih => rw [subL, ih, List.map_cons]
mutual
theorem sub_sub (σ τ : Int → Tm) : ∀ t : Tm, sub τ (sub σ t) = sub (fun v => sub τ (σ v)) t
  | .mk v f us => by
    rw [sub, sub]
    by_cases hv : v > 0
    · rw [if_pos hv, if_pos hv]
    · rw [if_neg hv, if_neg hv, sub, if_neg hv, subL_subL σ τ us]
theorem subL_subL (σ τ : Int → Tm) : ∀ us : List Tm, subL τ (subL σ us) = subL (fun v => sub τ (σ v)) us
  | [] => rfl
  | x :: xs => by rw [subL, subL, subL, sub_sub σ τ x, subL_subL σ τ xs]
end
mutual
theorem sub_congr {σ τ : Int → Tm} : ∀ t : Tm, (∀ x ∈ parts t, x.v > 0 → σ x.v = τ x.v) → sub σ t = sub τ t
  | .mk v f us, h => by
    rw [sub, sub]
    by_cases hv : v > 0
    · rw [if_pos hv, if_pos hv]; exact h (.mk v f us) (by rw [parts]; simp) hv
    · rw [if_neg hv, if_neg hv, subL_congr us fun x hx => h x (by rw [parts]; exact List.mem_append_left _ hx)]
theorem subL_congr {σ τ : Int → Tm} : ∀ us : List Tm, (∀ x ∈ partsL us, x.v > 0 → σ x.v = τ x.v) → subL σ us = subL τ us
  | [], _ => rfl
  | x :: xs, h => by
    rw [subL, subL, sub_congr x fun y hy => h y (by rw [partsL]; exact List.mem_append_left _ hy), subL_congr xs fun y hy => h y (by rw [partsL]; exact List.mem_append_right _ hy)]
end
abbrev vt (v : Int) : Tm := .mk v 0 []
def Pure (t : Tm) : Prop := ∀ x ∈ parts t, 0 ≤ x.v ∧ (x.v > 0 → x = vt x.v)
theorem Pure.good {t : Tm} (h : Pure t) : Good t := fun x hx => ⟨(h x hx).1, fun hv => by rw [(h x hx).2 hv]; rfl⟩
theorem parts_kid {t u : Tm} (hu : u ∈ t.us) {x : Tm} (hx : x ∈ parts u) : x ∈ parts t := by
  rw [parts_eq]
  refine List.mem_append_left _ ?_
  generalize t.us = us at hu
  induction us with
  | nil => cases hu
  | cons y ys ih =>
    rw [partsL, List.mem_append]
    rcases List.mem_cons.1 hu with rfl | hu
    · exact .inl hx
    · exact .inr (ih hu)
theorem parts_self (t : Tm) : t ∈ parts t := by rw [parts_eq]; simp
theorem partsL_mem {us : List Tm} {x : Tm} (h : x ∈ partsL us) : ∃ u ∈ us, x ∈ parts u := by
  induction us with
  | nil => simp [partsL] at h
  | cons y ys ih =>
    rw [partsL, List.mem_append] at h
    rcases h with h | h
    · exact ⟨y, by simp, h⟩
    · obtain ⟨u, hu, hx⟩ := ih h
      exact ⟨u, by simp [hu], hx⟩
theorem partsL_of {us : List Tm} {u x : Tm} (hu : u ∈ us) (hx : x ∈ parts u) : x ∈ partsL us := by
  induction us with
  | nil => cases hu
  | cons y ys ih =>
    rw [partsL, List.mem_append]
    rcases List.mem_cons.1 hu with rfl | hu
    · exact .inl hx
    · exact .inr (ih hu)
theorem Pure.kid {t u : Tm} (h : Pure t) (hu : u ∈ t.us) : Pure u := fun x hx => h x (parts_kid hu hx)
theorem Pure.nn {t : Tm} (h : Pure t) : ∀ x ∈ parts t, 0 ≤ x.v := fun x hx => (h x hx).1
theorem own_pure {g : List Int} {t : Tm} (h : own g t = 0) : Pure t := fun x hx => by
  refine ⟨own_v h hx, fun hv => ?_⟩
  have h1 := own_each h hx
  have h2 := own_bare h x hx hv
  unfold formOne at h1
  rw [if_pos (by omega)] at h1
  split at h1
  · cases h1
  · split at h1
    · cases h1
    · rename_i h3
      obtain ⟨v, f, us⟩ := x
      simp only [Tm.us, Tm.f, Tm.v] at *
      subst h2
      have : f = 0 := by
        rcases Classical.em (f = 0) with h | h
        · exact h
        · exact absurd (.inr h) h3
      rw [this]
mutual
theorem sub_id : ∀ t : Tm, Pure t → sub vt t = t
  | .mk v f us, h => by
    rw [sub]
    by_cases hv : v > 0
    · rw [if_pos hv]; exact ((h (.mk v f us) (parts_self _)).2 hv).symm
    · rw [if_neg hv, subL_id us fun u hu => h.kid (t := .mk v f us) hu]
theorem subL_id : ∀ us : List Tm, (∀ u ∈ us, Pure u) → subL vt us = us
  | [], _ => rfl
  | x :: xs, h => by rw [subL, sub_id x (h x (by simp)), subL_id xs fun u hu => h u (by simp [hu])]
end
def ExB (σ : Int → Tm) (b : Bs) : Prop := ∀ v u, lookB v b = some u → σ v = u
def sbOf (b : Bs) (v : Int) : Tm := (lookB v b).getD (vt v)
theorem sbOf_ext (b : Bs) : ExB (sbOf b) b := fun v u h => by unfold sbOf; rw [h]; rfl
theorem lookB_append (v : Int) (a b : Bs) : lookB v (a ++ b) = match lookB v a with | some u => some u | none => lookB v b := by
  induction a with
  | nil => rfl
  | cons p a ih =>
    rw [List.cons_append, lookB, lookB, ih]
    by_cases h : v = p.1
    · rw [if_pos h, if_pos h]
    · rw [if_neg h, if_neg h]
theorem ExB.snoc {σ : Int → Tm} {b : Bs} {v : Int} {t : Tm} (h : ExB σ (b ++ [(v, t)])) (hn : lookB v b = none) : ExB σ b ∧ σ v = t := by
  refine ⟨fun x u hx => h x u (by rw [lookB_append, hx]), h v t (by rw [lookB_append, hn]; simp [lookB])⟩
theorem ExB.mk {σ : Int → Tm} {b : Bs} {v : Int} {t : Tm} (h : ExB σ b) (hv : σ v = t) : ExB σ (b ++ [(v, t)]) := fun x u hx => by
  rw [lookB_append] at hx
  cases hb : lookB x b with
  | some w => rw [hb] at hx; cases hx; exact h x _ hb
  | none =>
    rw [hb] at hx
    simp only [lookB] at hx
    split at hx
    · cases hx; subst_vars; rfl
    · cases hx
mutual
theorem meet_sound {σ : Int → Tm} : ∀ (p t : Tm) (b : Bs), (∀ x ∈ parts p, 0 ≤ x.v) → (meet p t b).1 = true → ExB σ (meet p t b).2 → ExB σ b ∧ sub σ p = t
  | .mk v f us, t, b, hp, h, he => by
    rw [meet] at h he
    rw [sub]
    by_cases hv : v > 0
    · rw [if_pos hv] at h he ⊢
      cases hb : lookB v b with
      | some u =>
        rw [hb] at h he
        simp only at h he
        rw [same_iff] at h
        exact ⟨he, by rw [← h]; exact he v u hb⟩
      | none =>
        rw [hb] at he
        simp only at he
        exact he.snoc hb
    · rw [if_neg hv] at h he ⊢
      by_cases hc : t.v = 0 ∧ f = t.f ∧ us.length = t.us.length
      · rw [if_pos hc] at h he
        obtain ⟨c1, c2, c3⟩ := hc
        obtain ⟨h1, h2⟩ := meetL_sound us t.us b (fun x hx => hp x (by rw [parts]; exact List.mem_append_left _ hx)) c3 h he
        refine ⟨h1, ?_⟩
        have hv0 : v = 0 := by have := hp (.mk v f us) (parts_self _); simp only [Tm.v] at this; omega
        rw [h2, hv0, ← c1, c2, Tm.eta]
      · rw [if_neg hc] at h; cases h
theorem meetL_sound {σ : Int → Tm} : ∀ (xs ys : List Tm) (b : Bs), (∀ x ∈ partsL xs, 0 ≤ x.v) → xs.length = ys.length → (meetL xs ys b).1 = true → ExB σ (meetL xs ys b).2 → ExB σ b ∧ subL σ xs = ys
  | [], [], b, _, _, _, he => ⟨he, rfl⟩
  | x :: xs, y :: ys, b, hp, hl, h, he => by
    rw [meetL] at h he
    by_cases hc : (meet x y b).1 = true
    · rw [if_pos hc] at h he
      obtain ⟨h1, h2⟩ := meetL_sound xs ys _ (fun z hz => hp z (by rw [partsL]; exact List.mem_append_right _ hz)) (by simpa using hl) h he
      obtain ⟨h3, h4⟩ := meet_sound x y b (fun z hz => hp z (by rw [partsL]; exact List.mem_append_left _ hz)) hc h1
      exact ⟨h3, by rw [subL, h4, h2]⟩
    · rw [if_neg hc] at h; cases h
end
mutual
theorem meet_compl {σ : Int → Tm} : ∀ (p t : Tm) (b : Bs), (∀ x ∈ parts p, 0 ≤ x.v) → ExB σ b → sub σ p = t → (meet p t b).1 = true ∧ ExB σ (meet p t b).2
  | .mk v f us, t, b, hp, he, h => by
    rw [meet]
    rw [sub] at h
    by_cases hv : v > 0
    · rw [if_pos hv] at h ⊢
      cases hb : lookB v b with
      | some u =>
        simp only
        refine ⟨?_, he⟩
        rw [same_iff, ← h]; exact (he v u hb).symm
      | none => exact ⟨rfl, he.mk h⟩
    · rw [if_neg hv] at h ⊢
      have hv0 : v = 0 := by have := hp (.mk v f us) (parts_self _); simp only [Tm.v] at this; omega
      subst h
      rw [if_pos ⟨hv0, rfl, by simp only [Tm.us]; rw [subL_map, List.length_map]⟩]
      exact meetL_compl us (subL σ us) b (fun x hx => hp x (by rw [parts]; exact List.mem_append_left _ hx)) he rfl
theorem meetL_compl {σ : Int → Tm} : ∀ (xs ys : List Tm) (b : Bs), (∀ x ∈ partsL xs, 0 ≤ x.v) → ExB σ b → subL σ xs = ys → (meetL xs ys b).1 = true ∧ ExB σ (meetL xs ys b).2
  | [], _, b, _, he, h => by subst h; exact ⟨rfl, he⟩
  | x :: xs, ys, b, hp, he, h => by
    rw [subL] at h
    subst h
    rw [meetL]
    obtain ⟨h1, h2⟩ := meet_compl x (sub σ x) b (fun z hz => hp z (by rw [partsL]; exact List.mem_append_left _ hz)) he rfl
    rw [if_pos h1]
    exact meetL_compl xs _ _ (fun z hz => hp z (by rw [partsL]; exact List.mem_append_right _ hz)) h2 rfl
end
def subLt (σ : Int → Tm) : Lt → Lt := mapLt (sub σ)
theorem turn_turn (l : Lt) : turnL (turnL l) = l := rfl
theorem subLt_turn (σ : Int → Tm) (l : Lt) : subLt σ (turnL l) = turnL (subLt σ l) := rfl
def InC (l : Lt) (d : List Lt) : Prop := l ∈ d ∨ turnL l ∈ d
theorem InC.turn {l : Lt} {d : List Lt} (h : InC l d) : InC (turnL l) d := h.symm
def Subs (σ : Int → Tm) (c d : List Lt) : Prop := ∀ l ∈ c, InC (subLt σ l) d
def NnC (c : List Lt) : Prop := ∀ l ∈ c, (∀ x ∈ parts l.a, 0 ≤ x.v) ∧ ∀ x ∈ parts l.b, 0 ≤ x.v
theorem tryG_sound {σ : Int → Tm} {l x : Lt} {b : Bs} (hl : (∀ x ∈ parts l.a, 0 ≤ x.v) ∧ ∀ x ∈ parts l.b, 0 ≤ x.v) (h : (tryG meet l x b).1 = true) (he : ExB σ (tryG meet l x b).2) : ExB σ b ∧ sub σ l.a = x.a ∧ sub σ l.b = x.b := by
  unfold tryG at h he
  by_cases hc : (meet l.a x.a b).1 = true
  · rw [if_pos hc] at h he
    obtain ⟨h1, h2⟩ := meet_sound l.b x.b _ hl.2 h he
    obtain ⟨h3, h4⟩ := meet_sound l.a x.a b hl.1 hc h1
    exact ⟨h3, h4, h2⟩
  · rw [if_neg hc] at h; cases h
theorem tryG_compl {σ : Int → Tm} {l x : Lt} {b : Bs} (hl : (∀ x ∈ parts l.a, 0 ≤ x.v) ∧ ∀ x ∈ parts l.b, 0 ≤ x.v) (he : ExB σ b) (h1 : sub σ l.a = x.a) (h2 : sub σ l.b = x.b) : (tryG meet l x b).1 = true ∧ ExB σ (tryG meet l x b).2 := by
  unfold tryG
  obtain ⟨h3, h4⟩ := meet_compl l.a x.a b hl.1 he h1
  rw [if_pos h3]
  exact meet_compl l.b x.b _ hl.2 h4 h2
theorem cov_sound : ∀ (c d : List Lt) (b : Bs), NnC c → covG meet c d b = true → ∃ σ, ExB σ b ∧ Subs σ c d
  | [], d, b, _, _ => ⟨sbOf b, sbOf_ext b, fun l hl => by cases hl⟩
  | l :: c, d, b, hn, h => by
    rw [covG, List.any_eq_true] at h
    obtain ⟨x, hx, h⟩ := h
    rw [Bool.and_eq_true, beq_iff_eq, Bool.or_eq_true, Bool.and_eq_true, Bool.and_eq_true] at h
    obtain ⟨hy, h⟩ := h
    have hn' : NnC c := fun z hz => hn z (by simp [hz])
    rcases h with ⟨h1, h2⟩ | ⟨h1, h2⟩
    · obtain ⟨σ, he, hs⟩ := cov_sound c d _ hn' h2
      obtain ⟨e1, e2, e3⟩ := tryG_sound (hn l (by simp)) h1 he
      refine ⟨σ, e1, fun z hz => ?_⟩
      rcases List.mem_cons.1 hz with rfl | hz
      · left
        have : subLt σ z = x := by
          obtain ⟨y, a, b'⟩ := x
          simp only [subLt, mapLt] at *
          rw [e2, e3, hy]
        rw [this]; exact hx
      · exact hs z hz
    · obtain ⟨σ, he, hs⟩ := cov_sound c d _ hn' h2
      obtain ⟨e1, e2, e3⟩ := tryG_sound (hn l (by simp)) h1 he
      refine ⟨σ, e1, fun z hz => ?_⟩
      rcases List.mem_cons.1 hz with rfl | hz
      · right
        have : turnL (subLt σ z) = x := by
          obtain ⟨y, a, b'⟩ := x
          simp only [subLt, mapLt, turnL] at *
          rw [e2, e3, hy]
        rw [this]; exact hx
      · exact hs z hz
theorem cov_compl {σ : Int → Tm} : ∀ (c d : List Lt) (b : Bs), NnC c → ExB σ b → Subs σ c d → covG meet c d b = true
  | [], _, _, _, _, _ => rfl
  | l :: c, d, b, hn, he, hs => by
    have hn' : NnC c := fun z hz => hn z (by simp [hz])
    have hs' : Subs σ c d := fun z hz => hs z (by simp [hz])
    rw [covG, List.any_eq_true]
    rcases hs l (by simp) with h | h
    · refine ⟨_, h, ?_⟩
      obtain ⟨h1, h2⟩ := tryG_compl (x := subLt σ l) (hn l (by simp)) he rfl rfl
      rw [h1, Bool.true_and, cov_compl c d _ hn' h2 hs']
      simp [subLt, mapLt]
    · refine ⟨_, h, ?_⟩
      obtain ⟨h1, h2⟩ := tryG_compl (x := turnL (turnL (subLt σ l))) (hn l (by simp)) he rfl rfl
      rw [h1, Bool.true_and, cov_compl c d _ hn' h2 hs']
      simp [subLt, mapLt, turnL]
theorem cov_iff {c d : List Lt} (hn : NnC c) : covG meet c d [] = true ↔ ∃ σ, Subs σ c d := by
  constructor
  · intro h
    obtain ⟨σ, _, hs⟩ := cov_sound c d [] hn h
    exact ⟨σ, hs⟩
  · rintro ⟨σ, hs⟩
    exact cov_compl c d [] hn (fun v u h => by cases h) hs
theorem Subs.trans {σ τ : Int → Tm} {c d e : List Lt} (h1 : Subs σ c d) (h2 : Subs τ d e) : Subs (fun v => sub τ (σ v)) c e := by
  intro l hl
  have hss : ∀ l : Lt, subLt (fun v => sub τ (σ v)) l = subLt τ (subLt σ l) := fun l => by
    simp only [subLt, mapLt, sub_sub]
  rw [hss]
  rcases h1 l hl with h | h
  · exact h2 _ h
  · have := h2 _ h
    rw [subLt_turn] at this
    exact this.turn
theorem cov_trans {c d e : List Lt} (hc : NnC c) (hd : NnC d) (h1 : covG meet c d [] = true) (h2 : covG meet d e [] = true) : covG meet c e [] = true := by
  rw [cov_iff hc] at h1 ⊢
  rw [cov_iff hd] at h2
  obtain ⟨σ, h1⟩ := h1
  obtain ⟨τ, h2⟩ := h2
  exact ⟨_, h1.trans h2⟩
theorem cov_self {c : List Lt} (hc : ∀ l ∈ c, Pure l.a ∧ Pure l.b) : covG meet c c [] = true := by
  rw [cov_iff fun l hl => ⟨(hc l hl).1.nn, (hc l hl).2.nn⟩]
  refine ⟨vt, fun l hl => .inl ?_⟩
  have : subLt vt l = l := by
    obtain ⟨y, a, b⟩ := l
    simp only [subLt, mapLt, sub_id a (hc _ hl).1, sub_id b (hc _ hl).2]
  rw [this]; exact hl
end Go.Proofs.Ytmeekpinkfpnhaa
namespace Go.Proofs.Ytmeekpinkfpnhaa
abbrev tm0 : Tm := .mk 0 0 []
def atG : Tm → List Int → Option Tm
  | t, [] => some t
  | t, i :: p => if 0 ≤ i ∧ i < t.us.length then atG (t.us.getD i.toNat tm0) p else none
def layG : Tm → List Int → Tm → Tm
  | _, [], u => u
  | t, i :: p, u => .mk t.v t.f (t.us.set i.toNat (layG (t.us.getD i.toNat tm0) p u))
def putG : Tm → List Int → Tm → Tm
  | _, [], u => u
  | t, i :: p, u => .mk 0 t.f (if 0 ≤ i then t.us.set i.toNat (putG (t.us.getD i.toNat tm0) p u) else t.us)
theorem atG_some {t x : Tm} {i : Int} {p : List Int} (h : atG t (i :: p) = some x) : ∃ n : Nat, ∃ hn : n < t.us.length, i = n ∧ atG t.us[n] p = some x := by
  rw [atG] at h
  by_cases hc : 0 ≤ i ∧ i < t.us.length
  · rw [if_pos hc] at h
    refine ⟨i.toNat, by omega, by omega, ?_⟩
    rw [getD_at (by omega)] at h; exact h
  · rw [if_neg hc] at h; cases h
theorem atG_at {t : Tm} {n : Nat} (hn : n < t.us.length) (p : List Int) : atG t ((n : Int) :: p) = atG t.us[n] p := by
  rw [atG, if_pos (by omega), Int.toNat_natCast, getD_at hn]
theorem put_lay : ∀ (p : List Int) (t u x : Tm), Good t → atG t p = some x → putG t p u = layG t p u
  | [], _, _, _, _, _ => rfl
  | i :: p, t, u, x, hg, h => by
    obtain ⟨n, hn, rfl, k⟩ := atG_some h
    rw [putG, layG, if_pos (by omega), Int.toNat_natCast, getD_at hn, put_lay p t.us[n] u x (hg.kid (List.getElem_mem hn)) k]
    have h0 := hg t (parts_self t)
    have : t.v = 0 := by
      rcases Int.lt_or_le 0 t.v with h1 | h1
      · have := h0.2 h1; rw [this] at hn; exact absurd hn (Nat.not_lt_zero _)
      · omega
    rw [this]
theorem at_parts : ∀ (p : List Int) (t x : Tm), atG t p = some x → ∀ y ∈ parts x, y ∈ parts t
  | [], t, x, h, y, hy => by rw [atG] at h; cases h; exact hy
  | i :: p, t, x, h, y, hy => by
    obtain ⟨n, hn, rfl, k⟩ := atG_some h
    exact parts_kid (List.getElem_mem hn) (at_parts p t.us[n] x k y hy)
theorem us_cut {t : Tm} {n : Nat} (hn : n < t.us.length) : t.us = t.us.take n ++ t.us[n] :: t.us.drop (n + 1) := by
  rw [← List.drop_eq_getElem_cons hn, List.take_append_drop]
theorem set_cut {l : List Tm} {n : Nat} (hn : n < l.length) (x : Tm) : l.set n x = l.take n ++ x :: l.drop (n + 1) := by
  rw [List.set_eq_take_append_cons_drop, if_pos hn]
theorem at_lay : ∀ (p : List Int) (t u x : Tm), atG t p = some x → atG (layG t p u) p = some u
  | [], _, _, _, _ => rfl
  | i :: p, t, u, x, h => by
    obtain ⟨n, hn, rfl, k⟩ := atG_some h
    rw [layG, Int.toNat_natCast, getD_at hn]
    have hn' : n < (Tm.mk t.v t.f (t.us.set n (layG t.us[n] p u))).us.length := by show n < (t.us.set n _).length; rw [List.length_set]; exact hn
    rw [atG_at hn']
    have e : (Tm.mk t.v t.f (t.us.set n (layG t.us[n] p u))).us[n] = layG t.us[n] p u := by
      show (t.us.set n (layG t.us[n] p u))[n]'(by rw [List.length_set]; exact hn) = _
      rw [List.getElem_set_self]
    rw [e]
    exact at_lay p t.us[n] u x k
theorem lay_back : ∀ (p : List Int) (t u x : Tm), atG t p = some x → layG (layG t p u) p x = t
  | [], t, u, x, h => by rw [atG] at h; cases h; rfl
  | i :: p, t, u, x, h => by
    obtain ⟨n, hn, rfl, k⟩ := atG_some h
    rw [layG, layG, Int.toNat_natCast, getD_at hn]
    show Tm.mk t.v t.f ((t.us.set n (layG t.us[n] p u)).set n (layG ((t.us.set n (layG t.us[n] p u)).getD n tm0) p x)) = t
    have e : (t.us.set n (layG t.us[n] p u)).getD n tm0 = layG t.us[n] p u := by
      rw [getD_at (by rw [List.length_set]; exact hn), List.getElem_set_self]
    rw [e, lay_back p t.us[n] u x k, List.set_set, List.set_getElem_self, Tm.eta]
theorem lay_form (g : List Int) : ∀ (p : List Int) (t u x : Tm), atG t p = some x → form g t = 0 → form g u = 0 → form g (layG t p u) = 0
  | [], _, _, _, _, _, hu => hu
  | i :: p, t, u, x, h, ht, hu => by
    obtain ⟨n, hn, rfl, k⟩ := atG_some h
    rw [layG, Int.toNat_natCast, getD_at hn]
    rw [form_eq] at ht
    by_cases hl : formL g t.us = 0
    · rw [if_neg (by simp [hl])] at ht
      have each : ∀ (l : List Tm), formL g l = 0 ↔ ∀ y ∈ l, form g y = 0 := by
        intro l
        induction l with
        | nil => simp [formL]
        | cons y l ih =>
          rw [formL]
          by_cases hy : form g y = 0
          · rw [if_neg (by simp [hy]), ih]; simp [hy]
          · rw [if_pos hy]; simp [hy]
      have h1 := (each _).1 hl
      have h2 := lay_form g p t.us[n] u x k (h1 _ (List.getElem_mem hn)) hu
      rw [form]
      have h3 : formL g (t.us.set n (layG t.us[n] p u)) = 0 := (each _).2 fun y hy => by
        rcases List.mem_or_eq_of_mem_set hy with hy | rfl
        · exact h1 y hy
        · exact h2
      rw [if_neg (by simp [h3]), List.length_set]; exact ht
    · rw [if_pos hl] at ht; exact absurd ht hl
mutual
def plP : Tm → List (List Int × Tm)
  | .mk v f us => plPL us 0 ++ [([], .mk v f us)]
def plPL : List Tm → Nat → List (List Int × Tm)
  | [], _ => []
  | x :: xs, i => (plP x).map (fun q => ((i : Int) :: q.1, q.2)) ++ plPL xs (i + 1)
end
theorem plP_eq (t : Tm) : plP t = plPL t.us 0 ++ [([], t)] := by cases t; rw [plP]; rfl
mutual
theorem plP_snd : ∀ t : Tm, (plP t).map (·.2) = parts t
  | .mk v f us => by rw [plP, List.map_append, plPL_snd us 0, parts]; rfl
theorem plPL_snd : ∀ (us : List Tm) (i : Nat), (plPL us i).map (·.2) = partsL us
  | [], _ => rfl
  | x :: xs, i => by rw [plPL, List.map_append, List.map_map, plPL_snd xs, partsL, ← plP_snd x]; rfl
end
theorem plPL_mem : ∀ (us : List Tm) (i : Nat) (q : List Int × Tm), q ∈ plPL us i → ∃ (j : Nat) (hj : j < us.length) (p : List Int), q.1 = ((i + j : Nat) : Int) :: p ∧ (p, q.2) ∈ plP us[j]
  | x :: xs, i, q, h => by
    rw [plPL, List.mem_append] at h
    rcases h with h | h
    · obtain ⟨r, hr, rfl⟩ := List.mem_map.1 h
      exact ⟨0, by simp, r.1, by simp, hr⟩
    · obtain ⟨j, hj, p, h1, h2⟩ := plPL_mem xs (i + 1) q h
      exact ⟨j + 1, by simpa using hj, p, by rw [h1]; congr 2; omega, h2⟩
theorem plP_at : ∀ (t : Tm) (q : List Int × Tm), q ∈ plP t → atG t q.1 = some q.2 := by
  refine Tm.ind fun t ih q hq => ?_
  rw [plP_eq, List.mem_append] at hq
  rcases hq with hq | hq
  · obtain ⟨j, hj, p, h1, h2⟩ := plPL_mem _ _ _ hq
    rw [h1, Nat.zero_add, atG_at hj]
    exact ih _ (List.getElem_mem hj) (p, q.2) h2
  · rw [List.mem_singleton.1 hq]; rfl
end Go.Proofs.Ytmeekpinkfpnhaa
namespace Go.Proofs.Ytmeekpinkfpnhaa
theorem v_mk (v f : Int) (us : List Tm) : (Tm.mk v f us).v = v := rfl
mutual
theorem applyR_sub (bs : Bs) : ∀ t : Tm, Pure t → applyR bs t = sub (sbOf bs) t
  | .mk v f us, h => by
    obtain ⟨h1, h2⟩ := h (.mk v f us) (parts_self _)
    simp only [Tm.v] at h1 h2
    rw [applyR, sub]
    by_cases hv : v > 0
    · rw [if_pos hv, if_pos hv]
      unfold sbOf
      cases lookB v bs with
      | some u => rfl
      | none => exact h2 hv
    · rw [if_neg hv, if_neg hv, applyRL_sub bs us fun u hu => h.kid (t := .mk v f us) hu]
      obtain rfl : v = 0 := by omega
      rfl
theorem applyRL_sub (bs : Bs) : ∀ us : List Tm, (∀ u ∈ us, Pure u) → applyRL bs us = subL (sbOf bs) us
  | [], _ => rfl
  | x :: xs, h => by rw [applyRL, subL, applyR_sub bs x (h x (by simp)), applyRL_sub bs xs fun u hu => h u (by simp [hu])]
end
theorem addV_vt (o : List Int) (v : Int) : addV o (vt v) = if v > 0 ∧ o.contains v = false then o ++ [v] else o := rfl
theorem Pure.part {t x : Tm} (h : Pure t) (hx : x ∈ parts t) : Pure x := by
  revert h hx
  refine Tm.ind (P := fun t => Pure t → x ∈ parts t → Pure x) (fun t ih h hx => ?_) t
  rw [parts_eq, List.mem_append] at hx
  rcases hx with hx | hx
  · obtain ⟨u, hu, hx⟩ := partsL_mem hx
    exact ih u hu (h.kid hu) hx
  · rw [List.mem_singleton.1 hx]; exact h
structure Rn (ρ : Int → Tm) (r : Int → Int) (V : List Int) : Prop where
  eq : ∀ v ∈ V, ρ v = vt (r v)
  pos : ∀ v ∈ V, r v > 0
  inj : ∀ v ∈ V, ∀ u ∈ V, r v = r u → v = u
def Vin (V : List Int) (t : Tm) : Prop := Pure t ∧ ∀ x ∈ parts t, x.v > 0 → x.v ∈ V
theorem Vin.kid {V : List Int} {t u : Tm} (h : Vin V t) (hu : u ∈ t.us) : Vin V u := ⟨h.1.kid hu, fun x hx => h.2 x (parts_kid hu hx)⟩
section
variable {ρ : Int → Tm} {r : Int → Int} {V : List Int} (H : Rn ρ r V)
include H
mutual
theorem rn_parts : ∀ t : Tm, Vin V t → parts (sub ρ t) = (parts t).map (sub ρ)
  | .mk v f us, h => by
    by_cases hv : v > 0
    · obtain ⟨h1, h2⟩ := h.1 (.mk v f us) (parts_self _)
      have hin := h.2 (.mk v f us) (parts_self _) hv
      have e := h2 hv
      rw [e]
      simp only [Tm.v] at hin ⊢
      rw [sub, if_pos hv, H.eq v hin]
      simp only [parts, partsL, List.nil_append, List.map_cons, List.map_nil, sub, if_pos hv, H.eq v hin]
    · rw [sub, if_neg hv, parts, parts, List.map_append, rn_partsL us fun u hu => h.kid (t := .mk v f us) hu, List.map_cons, List.map_nil, sub, if_neg hv]
theorem rn_partsL : ∀ us : List Tm, (∀ u ∈ us, Vin V u) → partsL (subL ρ us) = (partsL us).map (sub ρ)
  | [], _ => rfl
  | x :: xs, h => by rw [subL, partsL, partsL, List.map_append, rn_parts x (h x (by simp)), rn_partsL xs fun u hu => h u (by simp [hu])]
end
mutual
theorem rn_count : ∀ (t : Tm) (most : Int), Vin V t → count (sub ρ t) most = count t most
  | .mk v f us, most, h => by
    by_cases hv : v > 0
    · obtain ⟨h1, h2⟩ := h.1 (.mk v f us) (parts_self _)
      have hin := h.2 (.mk v f us) (parts_self _) hv
      have e := h2 hv
      rw [e]
      simp only [Tm.v] at hin ⊢
      rw [sub, if_pos hv, H.eq v hin]
      rfl
    · rw [sub, if_neg hv, count, count, rn_countL us 1 most fun u hu => h.kid (t := .mk v f us) hu]
theorem rn_countL : ∀ (us : List Tm) (n most : Int), (∀ u ∈ us, Vin V u) → countL (subL ρ us) n most = countL us n most
  | [], _, _, _ => rfl
  | x :: xs, n, most, h => by
    rw [subL, countL, countL, rn_count x _ (h x (by simp)), rn_countL xs _ most fun u hu => h u (by simp [hu])]
end
mutual
theorem rn_form (g : List Int) (hr : ∀ v ∈ V, r v ≤ 1000) : ∀ t : Tm, Vin V t → form g t = 0 → form g (sub ρ t) = 0
  | .mk v f us, h, hf => by
    by_cases hv : v > 0
    · have hin := h.2 (.mk v f us) (parts_self _) hv
      simp only [Tm.v] at hin
      rw [sub, if_pos hv, H.eq v hin]
      have := H.pos v hin
      have := hr v hin
      simp [form, formL, formOne]; omega
    · rw [form] at hf
      rw [sub, if_neg hv, form]
      by_cases hl : formL g us = 0
      · rw [if_neg (by simp [hl])] at hf
        rw [if_neg (by simp [rn_formL g hr us (fun u hu => h.kid (t := .mk v f us) hu) hl]), subL_map, List.length_map]
        exact hf
      · rw [if_pos hl] at hf; exact absurd hf hl
theorem rn_formL (g : List Int) (hr : ∀ v ∈ V, r v ≤ 1000) : ∀ us : List Tm, (∀ u ∈ us, Vin V u) → formL g us = 0 → formL g (subL ρ us) = 0
  | [], _, _ => rfl
  | x :: xs, h, hf => by
    rw [formL] at hf
    rw [subL, formL]
    by_cases hx : form g x = 0
    · rw [if_neg (by simp [hx])] at hf
      rw [if_neg (by simp [rn_form g hr x (h x (by simp)) hx])]
      exact rn_formL g hr xs (fun u hu => h u (by simp [hu])) hf
    · rw [if_pos hx] at hf; exact absurd hf hx
end
theorem rn_own (g : List Int) (hr : ∀ v ∈ V, r v ≤ 1000) {t : Tm} (h : Vin V t) (ho : own g t = 0) : own g (sub ρ t) = 0 := by
  obtain ⟨h1, h2⟩ := own_form ho
  unfold own
  rw [rn_count H t 120 h, if_neg (by omega)]
  exact rn_form H g hr t h h1
mutual
theorem rn_inj : ∀ (a b : Tm), Vin V a → Vin V b → sub ρ a = sub ρ b → a = b
  | .mk v f us, b, ha, hb, h => by
    by_cases hv : v > 0
    · have hin := ha.2 (.mk v f us) (parts_self _) hv
      have ea := (ha.1 (.mk v f us) (parts_self _)).2 hv
      simp only [Tm.v] at hin ea
      rw [sub, if_pos hv, H.eq v hin, sub_eq] at h
      by_cases hb2 : b.v > 0
      · have hin' := hb.2 b (parts_self _) hb2
        have eb := (hb.1 b (parts_self _)).2 hb2
        rw [if_pos hb2, H.eq _ hin'] at h
        have : v = b.v := H.inj v hin _ hin' (by injection h)
        rw [ea, eb, this]
      · rw [if_neg hb2] at h
        have := H.pos v hin
        injection h; omega
    · rw [sub, if_neg hv, sub_eq] at h
      by_cases hb2 : b.v > 0
      · have hin' := hb.2 b (parts_self _) hb2
        rw [if_pos hb2, H.eq _ hin'] at h
        have := H.pos _ hin'
        injection h; omega
      · rw [if_neg hb2] at h
        injection h with h1 h2 h3
        have := rn_injL us b.us (fun u hu => ha.kid (t := .mk v f us) hu) (fun u hu => hb.kid hu) h3
        rw [h1, h2, this, Tm.eta]
theorem rn_injL : ∀ (xs ys : List Tm), (∀ u ∈ xs, Vin V u) → (∀ u ∈ ys, Vin V u) → subL ρ xs = subL ρ ys → xs = ys
  | [], [], _, _, _ => rfl
  | [], y :: ys, _, _, h => by rw [subL, subL] at h; cases h
  | x :: xs, [], _, _, h => by rw [subL, subL] at h; cases h
  | x :: xs, y :: ys, h1, h2, h => by
    rw [subL, subL] at h
    injection h with h3 h4
    rw [rn_inj x y (h1 x (by simp)) (h2 y (by simp)) h3, rn_injL xs ys (fun u hu => h1 u (by simp [hu])) (fun u hu => h2 u (by simp [hu])) h4]
end
theorem rn_same {a b : Tm} (ha : Vin V a) (hb : Vin V b) : same (sub ρ a) (sub ρ b) = same a b := by
  rw [Bool.eq_iff_iff, same_iff, same_iff]
  exact ⟨rn_inj H a b ha hb, fun h => by rw [h]⟩
theorem rn_sides {x y : Lt} (hx : Vin V x.a ∧ Vin V x.b) (hy : Vin V y.a ∧ Vin V y.b) : sidesB (subLt ρ x) (subLt ρ y) = sidesB x y := by
  unfold sidesB
  simp only [subLt, mapLt]
  rw [rn_same H hx.1 hy.1, rn_same H hx.2 hy.2, rn_same H hx.1 hy.2, rn_same H hx.2 hy.1]
theorem rn_drop {o : List Lt} {l : Lt} (ho : ∀ x ∈ o, Vin V x.a ∧ Vin V x.b) (hl : Vin V l.a ∧ Vin V l.b) : dropB (o.map (subLt ρ)) (subLt ρ l) = dropB o l := by
  unfold dropB
  have e : same (subLt ρ l).a (subLt ρ l).b = same l.a l.b := rn_same H hl.1 hl.2
  rw [e, List.any_map]
  congr 1
  refine any_same fun x hx => ?_
  simp only [Function.comp]
  rw [rn_sides H (ho x hx) hl]
  rfl
theorem rn_keep : ∀ (c p : List Lt), (∀ x ∈ p, Vin V x.a ∧ Vin V x.b) → (∀ x ∈ c, Vin V x.a ∧ Vin V x.b) → keepR (p.map (subLt ρ)) (c.map (subLt ρ)) = (keepR p c).map (subLt ρ)
  | [], p, _, _ => rfl
  | l :: c, p, hp, hc => by
    have hl := hc l (by simp)
    have h1 := rn_keep c (p ++ [l]) (fun x hx => by
      rcases List.mem_append.1 hx with hx | hx
      · exact hp x hx
      · rw [List.mem_singleton.1 hx]; exact hl) (fun x hx => hc x (by simp [hx]))
    rw [List.map_append, List.map_cons, List.map_nil] at h1
    rw [List.map_cons, keepR, keepR, rn_drop H hp hl, h1]
    by_cases hd : dropB p l = true
    · rw [if_pos hd, if_pos hd]
    · rw [if_neg hd, if_neg hd, List.map_cons]
theorem rn_addV {o : List Int} (ho : ∀ v ∈ o, v ∈ V) {x : Tm} (hx : Pure x) (hv : x.v > 0 → x.v ∈ V) : addV (o.map r) (sub ρ x) = (addV o x).map r := by
  by_cases h : x.v > 0
  · have hin := hv h
    rw [sub_eq, if_pos h, H.eq _ hin, addV_vt]
    have hp := H.pos _ hin
    have hc : (o.map r).contains (r x.v) = o.contains x.v := by
      rw [Bool.eq_iff_iff, List.contains_iff_mem, List.contains_iff_mem, List.mem_map]
      constructor
      · rintro ⟨u, hu, e⟩; rw [← H.inj u (ho u hu) _ hin e]; exact hu
      · intro hm; exact ⟨_, hm, rfl⟩
    rw [hc]
    unfold addV
    by_cases h2 : o.contains x.v = false
    · rw [if_pos ⟨hp, h2⟩, if_pos ⟨h, h2⟩, List.map_append]; rfl
    · rw [if_neg (fun e => h2 e.2), if_neg (fun e => h2 e.2)]
  · rw [sub_eq, if_neg h]
    unfold addV
    rw [if_neg (fun e => h e.1), if_neg (fun e => h (by simpa only [v_mk] using e.1))]
theorem rn_addVs : ∀ (l : List Tm) (o : List Int), (∀ v ∈ o, v ∈ V) → (∀ x ∈ l, Pure x ∧ (x.v > 0 → x.v ∈ V)) → addVs (o.map r) (l.map (sub ρ)) = (addVs o l).map r
  | [], _, _, _ => rfl
  | x :: l, o, ho, hl => by
    obtain ⟨h1, h2⟩ := hl x (by simp)
    show addVs (addV (o.map r) (sub ρ x)) (l.map (sub ρ)) = (addVs (addV o x) l).map r
    rw [rn_addV H ho h1 h2]
    refine rn_addVs l (addV o x) (fun v hv => ?_) (fun y hy => hl y (by simp [hy]))
    rcases addV_mem hv with h | ⟨h, h3⟩
    · exact ho v h
    · rw [h]; exact h2 h3
theorem rn_firstVars (l : List Tm) (hl : ∀ t ∈ l, Vin V t) : firstVars (l.map (sub ρ)) = (firstVars l).map r := by
  unfold firstVars
  have e : (l.map (sub ρ)).flatMap parts = (l.flatMap parts).map (sub ρ) := by
    induction l with
    | nil => rfl
    | cons t l ih => rw [List.map_cons, List.flatMap_cons, List.flatMap_cons, List.map_append, rn_parts H t (hl t (by simp)), ih fun u hu => hl u (by simp [hu])]
  rw [e]
  exact rn_addVs H _ [] (fun v hv => by cases hv) fun x hx => by
    obtain ⟨t, ht, hx⟩ := List.mem_flatMap.1 hx
    exact ⟨Pure.part (hl t ht).1 hx, (hl t ht).2 x hx⟩
end
theorem look_num : ∀ (vs : List Int) (i j : Nat) (h : j < vs.length), vs.Nodup → lookB vs[j] (numBs vs i) = some (vt ((i : Int) + j + 1))
  | v :: vs, i, 0, _, _ => by simp [numBs, lookB]
  | v :: vs, i, j + 1, h, hn => by
    rw [List.nodup_cons] at hn
    have hj : j < vs.length := by simpa using h
    have hne : ¬ vs[j] = v := fun e => hn.1 (by rw [← e]; exact List.getElem_mem _)
    rw [List.getElem_cons_succ, numBs, lookB, if_neg hne, look_num vs (i + 1) j hj hn.2]
    congr 2; omega
def posV (V : List Int) (v : Int) : Int := (V.idxOf v : Int) + 1
theorem num_rn {V : List Int} (hn : V.Nodup) : Rn (sbOf (numBs V 0)) (posV V) V := by
  refine ⟨fun v hv => ?_, fun v hv => by unfold posV; omega, fun v hv u hu h => ?_⟩
  · have hi := List.idxOf_lt_length_of_mem hv
    have := look_num V 0 (V.idxOf v) hi hn
    rw [List.getElem_idxOf hi] at this
    unfold sbOf posV
    rw [this]; simp
  · have h1 := List.getElem_idxOf (List.idxOf_lt_length_of_mem hv)
    have h2 := List.getElem_idxOf (List.idxOf_lt_length_of_mem hu)
    have : V.idxOf v = V.idxOf u := by unfold posV at h; omega
    rw [← h1, ← h2]
    congr 1
theorem pos_map {V : List Int} (hn : V.Nodup) : ∀ (i : Nat) (h : i < (V.map (posV V)).length), (V.map (posV V))[i] = (i : Int) + 1 := by
  intro i h
  have hl : i < V.length := by simpa using h
  rw [List.getElem_map]
  unfold posV
  have : V.idxOf V[i] = i := by
    have h1 := List.idxOf_lt_length_of_mem (List.getElem_mem hl)
    have h2 := List.getElem_idxOf h1
    exact (List.getElem_inj hn).1 h2
  rw [this]
theorem nodup_le : ∀ (n : Nat) (l : List Int), l.Nodup → (∀ v ∈ l, 1 ≤ v ∧ v ≤ n) → l.length ≤ n
  | 0, l, _, h => by
    cases l with
    | nil => simp
    | cons v l => have := h v (by simp); omega
  | n + 1, l, hn, h => by
    have h1 := nodup_le n (l.erase ((n : Int) + 1)) (hn.erase _) fun v hv => by
      have h2 := (hn.mem_erase_iff).1 hv
      have := h v h2.2
      have := h2.1
      omega
    rw [List.length_erase] at h1
    split at h1 <;> omega
theorem numBs_ident : ∀ (V : List Int) (k : Nat), (∀ (i : Nat) (h : i < V.length), V[i] = (k : Int) + i + 1) → ∀ v u, lookB v (numBs V k) = some u → u = vt v
  | [], _, _, v, u, h => by cases h
  | x :: V, k, hV, v, u, h => by
    rw [numBs, lookB] at h
    have h0 := hV 0 (by simp)
    simp only [List.getElem_cons_zero] at h0
    by_cases hv : v = x
    · rw [if_pos hv] at h; cases h; rw [hv, h0]; simp
    · rw [if_neg hv] at h
      exact numBs_ident V (k + 1) (fun i hi => by
        have := hV (i + 1) (by simpa using hi)
        simp only [List.getElem_cons_succ] at this
        rw [this]; omega) v u h
abbrev varsC (c : List Lt) : List Int := firstVars (termsOf c)
theorem termsOf_in {c : List Lt} {l : Lt} (hl : l ∈ c) : l.a ∈ termsOf c ∧ l.b ∈ termsOf c :=
  ⟨List.mem_flatMap.2 ⟨l, hl, by simp⟩, List.mem_flatMap.2 ⟨l, hl, by simp⟩⟩
theorem firstVars_has {l : List Tm} {t x : Tm} (ht : t ∈ l) (hx : x ∈ parts t) (hv : x.v > 0) : x.v ∈ firstVars l := addVs_has (List.mem_flatMap.2 ⟨t, ht, hx⟩) hv
def PureC (c : List Lt) : Prop := ∀ l ∈ c, Pure l.a ∧ Pure l.b
theorem PureC.vin {c : List Lt} (h : PureC c) : ∀ l ∈ c, Vin (varsC c) l.a ∧ Vin (varsC c) l.b := fun l hl =>
  ⟨⟨(h l hl).1, fun _ hx hv => firstVars_has (termsOf_in hl).1 hx hv⟩, ⟨(h l hl).2, fun _ hx hv => firstVars_has (termsOf_in hl).2 hx hv⟩⟩
theorem PureC.vinT {c : List Lt} (h : PureC c) : ∀ t ∈ termsOf c, Vin (varsC c) t := fun t ht => by
  obtain ⟨l, hl, rfl | rfl⟩ := termsOf_mem ht
  · exact (h.vin l hl).1
  · exact (h.vin l hl).2
theorem varsC_nodup (c : List Lt) : (varsC c).Nodup := addVs_nodup (by simp)
theorem termsOf_map (f : Tm → Tm) (c : List Lt) : termsOf (c.map (mapLt f)) = (termsOf c).map f := by
  induction c with
  | nil => rfl
  | cons l c ih => simp only [termsOf, List.map_cons, List.flatMap_cons, List.map_append, List.map_nil] at ih ⊢; rw [ih]; rfl
theorem tidyR_sub {c : List Lt} (h : PureC c) : tidyR c = (keepR [] c).map (subLt (sbOf (numBs (varsC (keepR [] c)) 0))) := by
  unfold tidyR
  exact mapLt_same fun l hl => ⟨applyR_sub _ _ (h l (keepR_mem hl)).1, applyR_sub _ _ (h l (keepR_mem hl)).2⟩
theorem keepR_keep : ∀ (c p q : List Lt), (∀ x, dropB q x = dropB p x) → keepR q (keepR p c) = keepR p c
  | [], _, _, _ => rfl
  | l :: c, p, q, h => by
    rw [keepR]
    by_cases hd : dropB p l = true
    · rw [if_pos hd]
      exact keepR_keep c (p ++ [l]) q fun x => by rw [h x, dropB_dropped hd]
    · rw [if_neg hd, keepR, h l, if_neg hd, keepR_keep c (p ++ [l]) (q ++ [l]) fun x => by rw [dropB_snoc, dropB_snoc, h x]]
theorem keepR_twice (c : List Lt) : keepR [] (keepR [] c) = keepR [] c := keepR_keep c [] [] fun _ => rfl
theorem tidy_vars {c : List Lt} (h : PureC c) : varsC (tidyR c) = (varsC (keepR [] c)).map (posV (varsC (keepR [] c))) := by
  have hk : PureC (keepR [] c) := fun l hl => h l (keepR_mem hl)
  have H := num_rn (varsC_nodup (keepR [] c))
  rw [tidyR_sub h]
  show firstVars (termsOf (List.map (mapLt (sub _)) _)) = _
  rw [termsOf_map, rn_firstVars H _ hk.vinT]
theorem tidy_pure {c : List Lt} (h : PureC c) : PureC (tidyR c) := by
  have hk : PureC (keepR [] c) := fun l hl => h l (keepR_mem hl)
  have H := num_rn (varsC_nodup (keepR [] c))
  rw [tidyR_sub h]
  generalize sbOf (numBs (varsC (keepR [] c)) 0) = ρ at *
  intro l hl
  obtain ⟨x, hx, rfl⟩ := List.mem_map.1 hl
  have key : ∀ t, Vin (varsC (keepR [] c)) t → Pure (sub ρ t) := by
    intro t ht y hy
    rw [rn_parts H t ht] at hy
    obtain ⟨z, hz, rfl⟩ := List.mem_map.1 hy
    obtain ⟨z1, z2⟩ := ht.1 z hz
    rw [sub_eq]
    by_cases hv : z.v > 0
    · have := ht.2 z hz hv
      rw [if_pos hv, H.eq _ this]
      have := H.pos _ this
      exact ⟨by simp only [v_mk]; omega, fun _ => rfl⟩
    · rw [if_neg hv]
      exact ⟨z1, fun h => absurd h hv⟩
  exact ⟨key _ (hk.vin x hx).1, key _ (hk.vin x hx).2⟩
theorem tidy_twice {c : List Lt} (h : PureC c) : tidyR (tidyR c) = tidyR c := by
  have hk : PureC (keepR [] c) := fun l hl => h l (keepR_mem hl)
  have H := num_rn (varsC_nodup (keepR [] c))
  have e := tidyR_sub h
  have ek : keepR [] (tidyR c) = tidyR c := by
    have := rn_keep H (keepR [] c) [] (fun x hx => by cases hx) hk.vin
    rw [List.map_nil, keepR_twice, ← e] at this
    exact this
  have hp := tidy_pure h
  rw [tidyR_sub hp, ek, tidy_vars h]
  have hid : ∀ t, Pure t → sub (sbOf (numBs ((varsC (keepR [] c)).map (posV (varsC (keepR [] c)))) 0)) t = t := by
    intro t ht
    refine Eq.trans (sub_congr t fun x hx hv => ?_) (sub_id t ht)
    unfold sbOf
    cases hl : lookB x.v (numBs ((varsC (keepR [] c)).map (posV (varsC (keepR [] c)))) 0) with
    | none => rfl
    | some u =>
      have := numBs_ident _ 0 (fun i hi => by rw [pos_map (varsC_nodup _)]; omega) _ _ hl
      rw [this]; rfl
  refine Eq.trans (List.map_congr_left fun l hl => ?_) (List.map_id' _)
  obtain ⟨y, a, b⟩ := l
  simp only [subLt, mapLt]
  rw [hid a (hp _ hl).1, hid b (hp _ hl).2]
theorem sub_len : ∀ (l m : List Int), l.Nodup → (∀ v ∈ l, v ∈ m) → l.length ≤ m.length
  | [], _, _, _ => Nat.zero_le _
  | x :: l, m, hn, h => by
    rw [List.nodup_cons] at hn
    have hx := h x (by simp)
    have h1 := sub_len l (m.erase x) hn.2 fun v hv => (List.mem_erase_of_ne (fun e => hn.1 (by rw [← e]; exact hv))).2 (h v (by simp [hv]))
    rw [List.length_erase_of_mem hx] at h1
    have : 0 < m.length := List.length_pos_of_mem hx
    rw [List.length_cons]; omega
theorem vars_keep {c : List Lt} : ∀ v ∈ varsC (keepR [] c), v ∈ varsC c := fun v hv => by
  rcases addVs_mem hv with h | ⟨x, hx, rfl, h2⟩
  · cases h
  · obtain ⟨t, ht, hx⟩ := List.mem_flatMap.1 hx
    obtain ⟨l, hl, h3⟩ := termsOf_mem ht
    have hl := keepR_mem hl
    refine firstVars_has (t := t) ?_ hx h2
    rcases h3 with rfl | rfl
    · exact (termsOf_in hl).1
    · exact (termsOf_in hl).2
theorem tidy_few {c : List Lt} (h : PureC c) : (varsC (tidyR c)).length ≤ (varsC c).length := by
  rw [tidy_vars h, List.length_map]
  exact sub_len _ _ (varsC_nodup _) vars_keep
theorem tidy_own {g : List Int} {c : List Lt} (h : ∀ l ∈ c, own g l.a = 0 ∧ own g l.b = 0) (hv : ∀ v ∈ varsC (keepR [] c), 1 ≤ v ∧ v ≤ 1000) : ∀ l ∈ tidyR c, own g l.a = 0 ∧ own g l.b = 0 := by
  have hp : PureC c := fun l hl => ⟨own_pure (h l hl).1, own_pure (h l hl).2⟩
  have hk : PureC (keepR [] c) := fun l hl => hp l (keepR_mem hl)
  have H := num_rn (varsC_nodup (keepR [] c))
  have hlen := nodup_le 1000 _ (varsC_nodup (keepR [] c)) hv
  rw [tidyR_sub hp]
  intro l hl
  obtain ⟨x, hx, rfl⟩ := List.mem_map.1 hl
  have hr : ∀ v ∈ varsC (keepR [] c), posV (varsC (keepR [] c)) v ≤ 1000 := fun v hv => by
    have := List.idxOf_lt_length_of_mem hv
    unfold posV; omega
  have ho := h x (keepR_mem hx)
  exact ⟨rn_own H g hr (hk.vin x hx).1 ho.1, rn_own H g hr (hk.vin x hx).2 ho.2⟩
theorem tidyR_len (c : List Lt) : (tidyR c).length ≤ c.length := by
  unfold tidyR; rw [List.length_map]; exact keepR_len c []
end Go.Proofs.Ytmeekpinkfpnhaa
namespace Go.Proofs.Ytmeekpinkfpnhaa
abbrev tsz (t : Tm) : Nat := (parts t).length
theorem tsz_pos (t : Tm) : 0 < tsz t := by rw [tsz, parts_eq, List.length_append]; simp
theorem tsz_mem {u : Tm} : ∀ {us : List Tm}, u ∈ us → tsz u ≤ (partsL us).length
  | x :: xs, h => by
    rw [partsL, List.length_append]
    rcases List.mem_cons.1 h with rfl | h
    · simp [tsz]
    · have := tsz_mem h; omega
theorem tsz_lt {u t : Tm} (h : u ∈ t.us) : tsz u < tsz t := by
  have := tsz_mem h
  rw [tsz, tsz, parts_eq t, List.length_append]; simp; exact Nat.lt_succ_of_le this
def lexG (g : Tm → Tm → Bool) : List Tm → List Tm → Bool
  | a :: l, b :: m => if same a b then lexG g l m else g a b
  | _, _ => false
theorem lexG_congr {g g' : Tm → Tm → Bool} : ∀ {l m : List Tm}, (∀ a ∈ l, ∀ b ∈ m, g a b = g' a b) → lexG g l m = lexG g' l m
  | [], _, _ => by cases ‹List Tm› <;> rfl
  | _ :: _, [], _ => rfl
  | a :: l, b :: m, h => by
    rw [lexG, lexG, h a (by simp) b (by simp), lexG_congr fun x hx y hy => h x (by simp [hx]) y (by simp [hy])]
def gtStep (g : Tm → Tm → Bool) (s t : Tm) : Bool :=
  if s.v > 0 then false
  else if s.us.any (fun a => same a t || g a t) then true
  else if t.v > 0 ∨ s.f < t.f ∨ t.us.any (fun b => !g s b) = true then false
  else if s.f > t.f then true
  else lexG g s.us t.us
theorem gtStep_congr {g g' : Tm → Tm → Bool} {s t : Tm} (h1 : ∀ a ∈ s.us, g a t = g' a t) (h2 : ∀ b ∈ t.us, g s b = g' s b) (h3 : ∀ a ∈ s.us, ∀ b ∈ t.us, g a b = g' a b) : gtStep g s t = gtStep g' s t := by
  have e1 : s.us.any (fun a => same a t || g a t) = s.us.any (fun a => same a t || g' a t) := by
    rw [Bool.eq_iff_iff, List.any_eq_true, List.any_eq_true]
    exact ⟨fun ⟨a, ha, h⟩ => ⟨a, ha, by rw [← h1 a ha]; exact h⟩, fun ⟨a, ha, h⟩ => ⟨a, ha, by rw [h1 a ha]; exact h⟩⟩
  have e2 : t.us.any (fun b => !g s b) = t.us.any (fun b => !g' s b) := by
    rw [Bool.eq_iff_iff, List.any_eq_true, List.any_eq_true]
    exact ⟨fun ⟨a, ha, h⟩ => ⟨a, ha, by rw [← h2 a ha]; exact h⟩, fun ⟨a, ha, h⟩ => ⟨a, ha, by rw [h2 a ha]; exact h⟩⟩
  unfold gtStep
  rw [e1, e2, lexG_congr h3]
def gtF : Nat → Tm → Tm → Bool
  | 0, _, _ => false
  | n + 1, s, t => gtStep (gtF n) s t
theorem gtF_enough : ∀ (n m : Nat) (s t : Tm), tsz s + tsz t ≤ n → tsz s + tsz t ≤ m → gtF n s t = gtF m s t
  | 0, _, s, t, h, _ => by have := tsz_pos s; omega
  | _ + 1, 0, s, t, _, h => by have := tsz_pos s; omega
  | n + 1, m + 1, s, t, h, h' => by
    rw [gtF, gtF]
    refine gtStep_congr (fun a ha => ?_) (fun b hb => ?_) (fun a ha b hb => ?_)
    · have := tsz_lt ha; exact gtF_enough n m _ _ (by omega) (by omega)
    · have := tsz_lt hb; exact gtF_enough n m _ _ (by omega) (by omega)
    · have := tsz_lt ha; have := tsz_lt hb; exact gtF_enough n m _ _ (by omega) (by omega)
def gt (s t : Tm) : Bool := gtF (tsz s + tsz t) s t
theorem gt_eq (s t : Tm) : gt s t = gtStep gt s t := by
  unfold gt
  obtain ⟨n, hn⟩ : ∃ n, tsz s + tsz t = n + 1 := ⟨tsz s + tsz t - 1, by have := tsz_pos s; omega⟩
  rw [hn, gtF]
  refine gtStep_congr (fun a ha => ?_) (fun b hb => ?_) (fun a ha b hb => ?_)
  · have := tsz_lt ha; exact gtF_enough _ _ _ _ (by omega) (by omega)
  · have := tsz_lt hb; exact gtF_enough _ _ _ _ (by omega) (by omega)
  · have := tsz_lt ha; have := tsz_lt hb; exact gtF_enough _ _ _ _ (by omega) (by omega)
/-! ### parts with the numbers of their arguments -/
def WellN (L : List (Tm × List Int)) (i : Nat) : Prop := ∀ p, L[i]? = some p → p.2.length = p.1.us.length ∧ ∀ (m : Nat) (u : Tm), p.1.us[m]? = some u → ∃ j : Nat, p.2[m]? = some (j : Int) ∧ j < i ∧ (L[j]?).map (·.1) = some u
theorem WellN.more {L M : List (Tm × List Int)} {i : Nat} (hi : i < L.length) (h : WellN L i) : WellN (L ++ M) i := by
  intro p hp
  rw [List.getElem?_append_left hi] at hp
  obtain ⟨h1, h2⟩ := h p hp
  refine ⟨h1, fun m u hu => ?_⟩
  obtain ⟨j, h3, h4, h5⟩ := h2 m u hu
  exact ⟨j, h3, h4, by rw [List.getElem?_append_left (by omega)]; exact h5⟩
theorem pn_last (t : Tm) (n : Nat) : (pn t n)[tsz t - 1]? = some (t, idxs t.us n) := by
  have : tsz t - 1 = (pnL t.us n).length := by rw [pnL_len, tsz, parts_eq, List.length_append]; simp
  rw [this, pn_eq, List.getElem?_append_right (Nat.le_refl _)]
  simp
theorem idxs_at (M : List (Tm × List Int)) : ∀ (us : List Tm) (pre : List (Tm × List Int)) (m : Nat) (u : Tm), us[m]? = some u → ∃ j : Nat, (idxs us pre.length)[m]? = some (j : Int) ∧ j < pre.length + (pnL us pre.length).length ∧ ((pre ++ pnL us pre.length ++ M)[j]?).map (·.1) = some u
  | [], _, m, _, h => by simp at h
  | x :: xs, pre, 0, u, h => by
    simp at h
    subst h
    have hp := tsz_pos x
    refine ⟨pre.length + tsz x - 1, ?_, ?_, ?_⟩
    · simp [idxs, tsz]; unfold tsz at hp; omega
    · rw [pnL, List.length_append, pn_len]; unfold tsz at *; omega
    · rw [pnL, List.append_assoc, List.getElem?_append_right (by omega), List.append_assoc, List.getElem?_append_left (by rw [pn_len]; unfold tsz at *; omega)]
      rw [show pre.length + tsz x - 1 - pre.length = tsz x - 1 by omega, pn_last]
      rfl
  | x :: xs, pre, m + 1, u, h => by
    have h' : xs[m]? = some u := by simpa using h
    obtain ⟨j, h1, h2, h3⟩ := idxs_at M xs (pre ++ pn x pre.length) m u h'
    have e : (pre ++ pn x pre.length).length = pre.length + (parts x).length := by rw [List.length_append, pn_len]
    rw [e] at h1 h2 h3
    refine ⟨j, by simpa [idxs] using h1, by rw [pnL, List.length_append, pn_len]; omega, ?_⟩
    rw [pnL, ← List.append_assoc]
    exact h3
mutual
theorem pn_well : ∀ (t : Tm) (pre : List (Tm × List Int)) (i : Nat), pre.length ≤ i → i < pre.length + tsz t → WellN (pre ++ pn t pre.length) i
  | .mk v f us, pre, i, h1, h2 => by
    rw [tsz, parts, List.length_append] at h2
    simp only [List.length_singleton] at h2
    rw [pn, ← List.append_assoc]
    by_cases hi : i < pre.length + (partsL us).length
    · exact (pnL_well us pre i h1 hi).more (by rw [List.length_append, pnL_len]; exact hi)
    · have he : i = (pre ++ pnL us pre.length).length := by rw [List.length_append, pnL_len]; omega
      intro p hp
      rw [he, List.getElem?_append_right (Nat.le_refl _), Nat.sub_self] at hp
      simp at hp
      subst hp
      refine ⟨by simp [idxs_len, Tm.us], fun m u hu => ?_⟩
      obtain ⟨j, g1, g2, g3⟩ := idxs_at [(Tm.mk v f us, idxs us pre.length)] us pre m u hu
      exact ⟨j, g1, by rw [he, List.length_append]; exact g2, g3⟩
theorem pnL_well : ∀ (us : List Tm) (pre : List (Tm × List Int)) (i : Nat), pre.length ≤ i → i < pre.length + (partsL us).length → WellN (pre ++ pnL us pre.length) i
  | [], pre, i, h1, h2 => by simp [partsL] at h2; omega
  | x :: xs, pre, i, h1, h2 => by
    rw [partsL, List.length_append] at h2
    rw [pnL, ← List.append_assoc]
    have e : (pre ++ pn x pre.length).length = pre.length + (parts x).length := by rw [List.length_append, pn_len]
    by_cases hi : i < pre.length + (parts x).length
    · exact (pn_well x pre i h1 hi).more (by rw [e]; exact hi)
    · have := pnL_well xs (pre ++ pn x pre.length) i (by omega) (by omega)
      rw [e] at this
      exact this
end
theorem pn_well0 (t : Tm) (i : Nat) (h : i < (pn t 0).length) : WellN (pn t 0) i := by
  rw [pn_len] at h
  simpa using pn_well t [] i (Nat.zero_le _) (by simpa [tsz] using h)
end Go.Proofs.Ytmeekpinkfpnhaa
namespace Go.Proofs.Ytmeekpinkfpnhaa
abbrev Gt (s t : Tm) : Prop := gt s t = true
theorem gt_iff (s t : Tm) : Gt s t ↔ s.v ≤ 0 ∧ ((∃ a ∈ s.us, a = t ∨ Gt a t) ∨ (t.v ≤ 0 ∧ t.f ≤ s.f ∧ (∀ b ∈ t.us, Gt s b) ∧ (t.f < s.f ∨ lexG gt s.us t.us = true))) := by
  unfold Gt
  rw [gt_eq, gtStep]
  by_cases h1 : s.v > 0
  · rw [if_pos h1]
    constructor
    · intro h; cases h
    · rintro ⟨h, _⟩; omega
  · rw [if_neg h1]
    by_cases h2 : s.us.any (fun a => same a t || gt a t) = true
    · rw [if_pos h2]
      rw [List.any_eq_true] at h2
      obtain ⟨a, ha, h2⟩ := h2
      rw [Bool.or_eq_true, same_iff] at h2
      exact ⟨fun _ => ⟨by omega, .inl ⟨a, ha, h2⟩⟩, fun _ => rfl⟩
    · rw [if_neg h2]
      have h2' : ¬ ∃ a ∈ s.us, a = t ∨ gt a t = true := by
        rintro ⟨a, ha, h⟩
        refine h2 (List.any_eq_true.2 ⟨a, ha, ?_⟩)
        rw [Bool.or_eq_true, same_iff]; exact h
      by_cases h3 : t.v > 0 ∨ s.f < t.f ∨ t.us.any (fun b => !gt s b) = true
      · rw [if_pos h3]
        constructor
        · intro h; cases h
        · rintro ⟨_, h | ⟨h4, h5, h6, _⟩⟩
          · exact absurd h h2'
          · rcases h3 with h3 | h3 | h3
            · omega
            · omega
            · rw [List.any_eq_true] at h3
              obtain ⟨b, hb, h3⟩ := h3
              rw [h6 b hb] at h3; cases h3
      · rw [if_neg h3]
        have h4 : t.v ≤ 0 ∧ t.f ≤ s.f ∧ ∀ b ∈ t.us, gt s b = true := by
          refine ⟨by omega, by omega, fun b hb => ?_⟩
          cases hh : gt s b with
          | true => rfl
          | false => exact absurd (.inr (.inr (List.any_eq_true.2 ⟨b, hb, by rw [hh]; rfl⟩))) h3
        by_cases h5 : s.f > t.f
        · rw [if_pos h5]
          exact ⟨fun _ => ⟨by omega, .inr ⟨h4.1, h4.2.1, h4.2.2, .inl h5⟩⟩, fun _ => rfl⟩
        · rw [if_neg h5]
          constructor
          · intro h; exact ⟨by omega, .inr ⟨h4.1, h4.2.1, h4.2.2, .inr h⟩⟩
          · rintro ⟨_, h | ⟨_, _, _, h | h⟩⟩
            · exact absurd h h2'
            · omega
            · exact h
theorem gt_arg {s a : Tm} (hv : s.v ≤ 0) (ha : a ∈ s.us) : Gt s a := (gt_iff s a).2 ⟨hv, .inl ⟨a, ha, .inl rfl⟩⟩
theorem gt_thru {s a t : Tm} (hv : s.v ≤ 0) (ha : a ∈ s.us) (h : Gt a t) : Gt s t := (gt_iff s t).2 ⟨hv, .inl ⟨a, ha, .inr h⟩⟩
theorem gt_sub {t b : Tm} (hv : t.v ≤ 0) (hb : b ∈ t.us) : ∀ s : Tm, Gt s t → Gt s b := by
  refine Tm.ind fun s ih h => ?_
  obtain ⟨h1, h2⟩ := (gt_iff s t).1 h
  rcases h2 with ⟨a, ha, h2 | h2⟩ | ⟨_, _, h3, _⟩
  · subst h2; exact gt_thru h1 ha (gt_arg hv hb)
  · exact gt_thru h1 ha (ih a ha h2)
  · exact h3 b hb
theorem lexG_self (g : Tm → Tm → Bool) : ∀ l : List Tm, lexG g l l = false
  | [] => rfl
  | a :: l => by rw [lexG, if_pos (same_rfl a), lexG_self g l]
theorem gt_irr : ∀ s : Tm, ¬ Gt s s := by
  refine Tm.ind fun s ih h => ?_
  obtain ⟨h1, h2⟩ := (gt_iff s s).1 h
  rcases h2 with ⟨a, ha, h2 | h2⟩ | ⟨_, _, _, h3 | h3⟩
  · have := tsz_lt ha
    rw [h2] at this; omega
  · exact ih a ha (gt_sub h1 ha a h2)
  · omega
  · rw [lexG_self] at h3; cases h3
theorem gt_ne {s t : Tm} (h : Gt s t) : s ≠ t := fun e => by subst e; exact gt_irr s h
theorem lexG_trans : ∀ (l m n : List Tm), (∀ a ∈ l, ∀ b ∈ m, ∀ c ∈ n, Gt a b → Gt b c → Gt a c) → lexG gt l m = true → lexG gt m n = true → lexG gt l n = true
  | a :: l, b :: m, c :: n, hT, h1, h2 => by
    rw [lexG] at h1 h2 ⊢
    by_cases e1 : a = b
    · subst e1
      rw [if_pos (same_rfl a)] at h1
      by_cases e2 : a = c
      · subst e2
        rw [if_pos (same_rfl a)] at h2 ⊢
        exact lexG_trans l m n (fun x hx y hy z hz => hT x (by simp [hx]) y (by simp [hy]) z (by simp [hz])) h1 h2
      · rw [if_neg (by rw [same_iff]; exact e2)] at h2 ⊢
        exact h2
    · rw [if_neg (by rw [same_iff]; exact e1)] at h1
      by_cases e2 : b = c
      · subst e2
        rw [if_neg (by rw [same_iff]; exact e1)]; exact h1
      · rw [if_neg (by rw [same_iff]; exact e2)] at h2
        have h3 := hT a (by simp) b (by simp) c (by simp) h1 h2
        rw [if_neg (by rw [same_iff]; exact gt_ne h3)]; exact h3
  | [], _, _, _, h1, _ => by simp [lexG] at h1
  | _ :: _, [], _, _, h1, _ => by simp [lexG] at h1
  | _ :: _, _ :: _, [], _, _, h2 => by simp [lexG] at h2
theorem gt_trans : ∀ (n : Nat) (s t u : Tm), tsz s + tsz t + tsz u ≤ n → Gt s t → Gt t u → Gt s u
  | 0, s, _, _, h, _, _ => by have := tsz_pos s; omega
  | n + 1, s, t, u, hn, h1, h2 => by
    obtain ⟨hv, h3⟩ := (gt_iff s t).1 h1
    rcases h3 with ⟨a, ha, h3 | h3⟩ | ⟨h4, h5, h6, h7⟩
    · subst h3; exact gt_thru hv ha h2
    · have := tsz_lt ha
      exact gt_thru hv ha (gt_trans n a t u (by omega) h3 h2)
    · obtain ⟨_, k3⟩ := (gt_iff t u).1 h2
      rcases k3 with ⟨b, hb, k3 | k3⟩ | ⟨k4, k5, k6, k7⟩
      · subst k3; exact h6 b hb
      · have := tsz_lt hb
        exact gt_trans n s b u (by omega) (h6 b hb) k3
      · refine (gt_iff s u).2 ⟨hv, .inr ⟨k4, by omega, fun c hc => ?_, ?_⟩⟩
        · have := tsz_lt hc
          exact gt_trans n s t c (by omega) h1 (k6 c hc)
        · rcases h7 with h7 | h7
          · left; omega
          · rcases k7 with k7 | k7
            · left; omega
            · right
              refine lexG_trans _ _ _ (fun a ha b hb c hc q1 q2 => ?_) h7 k7
              have := tsz_lt ha
              have := tsz_lt hb
              have := tsz_lt hc
              exact gt_trans n a b c (by omega) q1 q2
theorem Gt.trans {s t u : Tm} (h1 : Gt s t) (h2 : Gt t u) : Gt s u := gt_trans _ s t u (Nat.le_refl _) h1 h2
theorem Gt.asymm {s t : Tm} (h : Gt s t) : ¬ Gt t s := fun h2 => gt_irr s (h.trans h2)
theorem lexG_sub {σ : Int → Tm} : ∀ (l m : List Tm), (∀ a ∈ l, ∀ b ∈ m, Gt a b → Gt (sub σ a) (sub σ b)) → lexG gt l m = true → lexG gt (subL σ l) (subL σ m) = true
  | a :: l, b :: m, hS, h => by
    rw [lexG] at h
    rw [subL, subL, lexG]
    by_cases e1 : a = b
    · subst e1
      rw [if_pos (same_rfl a)] at h
      rw [if_pos (same_rfl _)]
      exact lexG_sub l m (fun x hx y hy => hS x (by simp [hx]) y (by simp [hy])) h
    · rw [if_neg (by rw [same_iff]; exact e1)] at h
      have := hS a (by simp) b (by simp) h
      rw [if_neg (by rw [same_iff]; exact gt_ne this)]; exact this
  | [], _, _, h1 => by simp [lexG] at h1
  | _ :: _, [], _, h1 => by simp [lexG] at h1
theorem gt_stable (σ : Int → Tm) : ∀ (n : Nat) (s t : Tm), tsz s + tsz t ≤ n → Gt s t → Gt (sub σ s) (sub σ t)
  | 0, s, _, h, _ => by have := tsz_pos s; omega
  | n + 1, s, t, hn, h => by
    obtain ⟨hv, h3⟩ := (gt_iff s t).1 h
    have es : sub σ s = .mk s.v s.f (subL σ s.us) := by rw [sub_eq, if_neg (by omega)]
    rw [es]
    rcases h3 with ⟨a, ha, h3⟩ | ⟨h4, h5, h6, h7⟩
    · have ha' : sub σ a ∈ (Tm.mk s.v s.f (subL σ s.us)).us := by
        show _ ∈ subL σ s.us
        rw [subL_map]; exact List.mem_map.2 ⟨a, ha, rfl⟩
      rcases h3 with h3 | h3
      · subst h3; exact gt_arg hv ha'
      · have := tsz_lt ha
        exact gt_thru hv ha' (gt_stable σ n a t (by omega) h3)
    · have et : sub σ t = .mk t.v t.f (subL σ t.us) := by rw [sub_eq, if_neg (by omega)]
      rw [et]
      refine (gt_iff _ _).2 ⟨hv, .inr ⟨h4, h5, fun b hb => ?_, ?_⟩⟩
      · have hb : b ∈ subL σ t.us := hb
        rw [subL_map] at hb
        obtain ⟨c, hc, rfl⟩ := List.mem_map.1 hb
        have := tsz_lt hc
        rw [← es]
        exact gt_stable σ n s c (by omega) (h6 c hc)
      · rcases h7 with h7 | h7
        · exact .inl h7
        · right
          refine lexG_sub _ _ (fun a ha b hb hab => ?_) h7
          have := tsz_lt ha
          have := tsz_lt hb
          exact gt_stable σ n a b (by omega) hab
theorem Gt.sub {s t : Tm} (h : Gt s t) (σ : Int → Tm) : Gt (sub σ s) (sub σ t) := gt_stable σ _ s t (Nat.le_refl _) h
theorem lexG_at : ∀ (l : List Tm) {s s' : Tm} (r : List Tm), Gt s s' → lexG gt (l ++ s :: r) (l ++ s' :: r) = true
  | [], s, s', r, h => by
    rw [List.nil_append, List.nil_append, lexG, if_neg (by rw [same_iff]; exact gt_ne h)]; exact h
  | a :: l, s, s', r, h => by
    rw [List.cons_append, List.cons_append, lexG, if_pos (same_rfl a)]
    exact lexG_at l r h
theorem Gt.mono {s s' : Tm} (h : Gt s s') (f : Int) (l r : List Tm) : Gt (.mk 0 f (l ++ s :: r)) (.mk 0 f (l ++ s' :: r)) := by
  have hz : (Tm.mk 0 f (l ++ s :: r)).v ≤ 0 := Int.le_refl 0
  refine (gt_iff _ _).2 ⟨hz, .inr ⟨Int.le_refl 0, Int.le_refl f, fun b hb => ?_, .inr (lexG_at l r h)⟩⟩
  have hb : b ∈ l ++ s' :: r := hb
  rw [List.mem_append, List.mem_cons] at hb
  rcases hb with hb | rfl | hb
  · exact gt_arg hz (List.mem_append.2 (.inl hb))
  · exact gt_thru hz (a := s) (List.mem_append.2 (.inr (by simp))) h
  · exact gt_arg hz (List.mem_append.2 (.inr (by simp [hb])))
def Gnd (ar : Int → Nat) (t : Tm) : Prop := ∀ x ∈ parts t, x.v = 0 ∧ x.us.length = ar x.f
theorem Gnd.kid {ar : Int → Nat} {t u : Tm} (h : Gnd ar t) (hu : u ∈ t.us) : Gnd ar u := fun x hx => h x (parts_kid hu hx)
theorem lexG_total : ∀ (l m : List Tm), l.length = m.length → (∀ a ∈ l, ∀ b ∈ m, a = b ∨ Gt a b ∨ Gt b a) → l = m ∨ lexG gt l m = true ∨ lexG gt m l = true
  | [], [], _, _ => .inl rfl
  | a :: l, b :: m, hl, h => by
    rcases Classical.em (a = b) with e | e
    · subst e
      rw [lexG, lexG, if_pos (same_rfl a), if_pos (same_rfl a)]
      rcases lexG_total l m (by simpa using hl) (fun x hx y hy => h x (by simp [hx]) y (by simp [hy])) with h1 | h1
      · rw [h1]; exact .inl rfl
      · exact .inr h1
    · right
      rw [lexG, lexG, if_neg (by rw [same_iff]; exact e), if_neg (by rw [same_iff]; exact fun e' => e e'.symm)]
      rcases h a (by simp) b (by simp) with h1 | h1
      · exact absurd h1 e
      · exact h1
theorem gt_total {ar : Int → Nat} : ∀ (n : Nat) (s t : Tm), tsz s + tsz t ≤ n → Gnd ar s → Gnd ar t → s = t ∨ Gt s t ∨ Gt t s
  | 0, s, _, h, _, _ => by have := tsz_pos s; omega
  | n + 1, s, t, hn, hs, ht => by
    obtain ⟨s1, s2⟩ := hs s (parts_self s)
    obtain ⟨t1, t2⟩ := ht t (parts_self t)
    by_cases c1 : ∃ a ∈ s.us, a = t ∨ Gt a t
    · exact .inr (.inl ((gt_iff s t).2 ⟨by omega, .inl c1⟩))
    by_cases c2 : ∃ b ∈ t.us, b = s ∨ Gt b s
    · exact .inr (.inr ((gt_iff t s).2 ⟨by omega, .inl c2⟩))
    have d1 : ∀ a ∈ s.us, Gt t a := fun a ha => by
      have := tsz_lt ha
      rcases gt_total n a t (by omega) (hs.kid ha) ht with h | h | h
      · exact absurd ⟨a, ha, .inl h⟩ c1
      · exact absurd ⟨a, ha, .inr h⟩ c1
      · exact h
    have d2 : ∀ b ∈ t.us, Gt s b := fun b hb => by
      have := tsz_lt hb
      rcases gt_total n b s (by omega) (ht.kid hb) hs with h | h | h
      · exact absurd ⟨b, hb, .inl h⟩ c2
      · exact absurd ⟨b, hb, .inr h⟩ c2
      · exact h
    rcases Int.lt_trichotomy s.f t.f with h | h | h
    · exact .inr (.inr ((gt_iff t s).2 ⟨by omega, .inr ⟨by omega, by omega, d1, .inl h⟩⟩))
    · rcases lexG_total s.us t.us (by rw [s2, t2, h]) (fun a ha b hb => by
        have := tsz_lt ha
        have := tsz_lt hb
        exact gt_total n a b (by omega) (hs.kid ha) (ht.kid hb)) with h1 | h1 | h1
      · left; rw [← Tm.eta s, ← Tm.eta t, h1, h, s1, t1]
      · exact .inr (.inl ((gt_iff s t).2 ⟨by omega, .inr ⟨by omega, by omega, d2, .inr h1⟩⟩))
      · exact .inr (.inr ((gt_iff t s).2 ⟨by omega, .inr ⟨by omega, by omega, d1, .inr h1⟩⟩))
    · exact .inr (.inl ((gt_iff s t).2 ⟨by omega, .inr ⟨by omega, by omega, d2, .inl h⟩⟩))
end Go.Proofs.Ytmeekpinkfpnhaa
