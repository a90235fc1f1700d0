/- subst.Meet. Terms mapped, bindings put in, clauses tidied: what is plain. No program in sight. The unifier of the program, in plain words: how it goes on while there is fuel. No program in sight. A loop whose rounds are counted down by a number that no slot need hold. The laws' helpers: small, fn, va. term.Mapped with any function that looks at objects; term.Copied. The unifier: root. subst.Meet, of all terms. slices.IndexFunc, ContainsFunc of terms, with a function that changes objects and may run out of fuel; slices.EqualFunc likewise. Named objects told by a list. -/
import Derived.Test.YtmeekpinkfpnhabB01
import Derived.Test.YtmeekpinkfpnhabB03
import Derived.Test.YtmeekpinkfpnhabB05
import Derived.Test.YtmeekpinkfpnhabB06
import Derived.Test.YtmeekpinkfpnhabB07
set_option linter.unusedSimpArgs false
set_option linter.unusedSectionVars false
set_option linter.unusedVariables false
set_option linter.unnecessarySimpa false
set_option linter.all false
namespace Go.Proofs.Ytmeekpinkfpnhab
open Go.RowKit
@[go_sem] theorem mapTit : mapT Try.prog 71 = some 28 := by kernel_rfl
@[go_sem] theorem zeroDt : zeroD Try.prog 28 = .st [.d (.v (.int .i64 0)), .d (.v (.int .i64 0)), .nil] := by kernel_rfl
def bsE (b : Bs) : List (Int × DV) := b.map fun p => (p.1, tmDV p.2)
theorem getM_bs (v : Int) (b : Bs) : getM v (bsE b) = (lookB v b).map tmDV := by
  induction b with
  | nil => rfl
  | cons p b ih =>
    simp only [bsE, List.map_cons, getM, lookB] at ih ⊢
    by_cases h : v = p.1
    · rw [if_pos h, if_pos h]; rfl
    · rw [if_neg h, if_neg h]; exact ih
theorem putM_bs {v : Int} {b : Bs} (h : lookB v b = none) (t : Tm) : putM v (tmDV t) (bsE b) = bsE (b ++ [(v, t)]) := by
  induction b with
  | nil => rfl
  | cons p b ih =>
    rw [lookB] at h
    by_cases hv : v = p.1
    · rw [if_pos hv] at h; cases h
    · rw [if_neg hv] at h
      have := ih h
      simp only [bsE, List.map_cons, List.cons_append, putM] at this ⊢
      rw [if_neg hv, this]
def mtO (b : Bs) (_ : Nm) : Ob := .map (bsE b)
def mtO2 (bx : Nm) (mm : Nm) (b : Bs) (x : Nm) : Ob := if x = bx then .cells 71 [.map mm] else .map (bsE b)
theorem mtO_cl (mm : Nm) (b : Bs) (k : Nat) : Cl k [mm] (mtO b) := by
  intro n _ x hx; simp [mtO, Ob.names] at hx
theorem mtO2_cl (bx mm : Nm) (b : Bs) (k : Nat) (h : ∀ n ∈ [bx, mm], n.1 < k) : Cl k [bx, mm] (mtO2 bx mm b) := by
  intro n _ x hx
  unfold mtO2 at hx
  split at hx
  · simp [Ob.names, namesL, AV.names] at hx; rw [hx]; exact h mm (by simp)
  · simp [Ob.names] at hx
def MeetSpec (p : Tm) : Prop := ∀ (t : Tm) (mm : Nm) (b : Bs), Tri Try.prog 44 [.map mm, .d (tmDV p), .d (tmDV t)] (stE [mm] (mtO b) (mtO (meet p t b).2) (bA (meet p t b).1))
set_option maxRecDepth 20000 in
theorem meet1_tri {p : Tm} (ih : MeetSpec p) (t : Tm) {bx mm : Nm} (hbm : bx ≠ mm) (b : Bs) : Tri Try.prog 75 [.d (tmDV p), .d (tmDV t), .ptr bx 0] (stE [bx, mm] (mtO2 bx mm b) (mtO2 bx mm (meet p t b).2) (bA (meet p t b).1)) := by
  refine tri_enter_st Try.func75 rfl Try.ntmps75 (by simp only [List.length_cons, List.length_nil]; omega) fun w0 h0 k hag => ?_
  obtain ⟨hb, eb⟩ := hag.get bx (by simp)
  obtain ⟨hm, em⟩ := hag.get mm (by simp)
  have e1 : mtO2 bx mm b bx = .cells 71 [.map mm] := by simp [mtO2]
  have e2 : mtO2 bx mm b mm = .map (bsE b) := by simp [mtO2, Ne.symm hbm]
  rw [e1] at eb
  rw [e2] at em
  have nb := nmne hb
  have hA : Ag k [mm] (mtO b) h0 := ⟨fun n hn => by simp at hn; subst hn; exact ⟨hm, em⟩⟩
  repeat' (first | refine awp_seq_k fun K hK => ?_ | ((first | refine awp_region_k (by kernel_rfl) fun R hR => ?_ | refine awp_draw mixed (by kernel_rfl) (by kernel_rfl) fun R hR => ?_); simp only [go_sem, eb, nb]) | ((first | (refine hR _ ?_; clear hR R) | refine awp_skip ?_ | refine awp_exit ?_ | refine awp_ret ?_); try simp only [thenA, inBlockA, reduceIte, reduceCtorEq, Nat.reduceEqDiff, if_false, if_true]) | ((first | refine hK _ ?_ | (clear hK K; first | refine hK _ ?_ | (clear hK K; first | refine hK _ ?_ | (clear hK K; first | refine hK _ ?_ | (clear hK K; refine hK _ ?_))))); clear hK K) | refine awp_true rfl rfl ?_ | refine awp_false rfl rfl ?_ | refine awp_block ?_ | ((first | refine CallK.chg (enter44) (ih t mm b) ?_ (by assumption) (by repeat (first | exact Fr.rfl' _ _ | assumption | refine Fr.updk ?_ (by omega) _)) ?_ | refine CallD.chg (enter44) (ih t mm b) ?_ (by assumption) (by repeat (first | exact Fr.rfl' _ _ | assumption | refine Fr.updk ?_ (by omega) _)) (by assumption) ?_); (focus first | ((repeat (first | exact trivial | refine ⟨(by first | exact Or.inl rfl | exact Or.inr rfl), ?_⟩)); done) | (simp only [coL, AV.dat, true_or, or_true, AV.d.injEq, go_sem]; done)); simp only [go_sem, eb, nb]) | refine And.intro (by first | ((repeat' first | omega | exact trivial | rfl | assumption | (intro a e; subst e; rfl) | exact map_sz fun a => (by simp only [go_sem]) | refine And.intro ?_ ?_); done) | fail) ?_ | fail)
  refine ret_st (by simp only [Try.results75, resOkL, resOk, Try.ntmps75, List.toList_toArray]; first | decide | (simp only [go_sem]; done) | (simp only [go_sem]; and_intros <;> first | omega | rfl | decide)) (by simp only [resA, resV, Try.results75, go_sem]; first | exact .dat rfl | exact Co.t2 (.dat rfl) (.dat rfl) | exact Co.t3 (.dat rfl) (.dat rfl) (.dat rfl)) ?_ ?_ ?_
  · refine ⟨fun n hn => ⟨(hag.get n hn).1, ?_⟩⟩
    simp only [List.mem_cons, List.not_mem_nil, or_false] at hn
    rcases hn with h | h
    · rw [h]
      have e3 : mtO2 bx mm (meet p t b).2 bx = .cells 71 [.map mm] := by simp [mtO2]
      rw [e3]
      simp only [go_sem, nb, eb, hbm]
    · rw [h]
      have e3 : mtO2 bx mm (meet p t b).2 mm = .map (bsE (meet p t b).2) := by simp [mtO2, Ne.symm hbm]
      rw [e3]
      simp only [go_sem, mtO]
  · intro x hx hxn
    have hxm : x ∉ [mm] := fun h => hxn (by simp at h; simp [h])
    show stH _ _ _ x = _
    rw [stH_get, if_neg hxm]
    exact ((by repeat (first | exact FrN.rfl' _ _ _ | assumption | refine FrN.updk ?_ (by omega) _ | refine FrN.stH ?_ _)) : FrN k [bx, mm] h0 _) x hx hxn
  · exact mtO2_cl bx mm _ k fun n hn => (hag.get n hn).1
set_option maxHeartbeats 2000000 in
set_option maxRecDepth 20000 in
theorem meet_step (p : Tm) (hp : p.us.length ≤ 4000000) (ih : ∀ u ∈ p.us, MeetSpec u) : MeetSpec p := by
  intro t mm b
  rw [meet_eq]
  refine tri_enter_st Try.func44 rfl Try.ntmps44 (by simp only [List.length_cons, List.length_nil]; omega) fun w0 h0 k hag => ?_
  obtain ⟨hm, em⟩ := hag.get mm (by simp)
  have em : h0 mm = some (.map (bsE b)) := em
  have nm := nmne hm
  cases hv : decide (p.v > 0) with
  | true =>
    have hv' : p.v > 0 := by simpa using hv
    rw [if_pos hv']
    cases hb : lookB p.v b with
    | some u =>
      have hg : getM p.v (bsE b) = some (tmDV u) := by rw [getM_bs, hb]; rfl
      have hcl := mtO_cl mm b k
      dsimp only
      repeat' (first | refine awp_seq_k fun K hK => ?_ | ((first | refine awp_region_k (by kernel_rfl) fun R hR => ?_ | refine awp_draw mixed (by kernel_rfl) (by kernel_rfl) fun R hR => ?_); simp only [go_sem, em, nm, hv, hg, Option.isSome_some]) | ((first | (refine hR _ ?_; clear hR R) | refine awp_skip ?_ | refine awp_exit ?_ | refine awp_ret ?_); try simp only [thenA, inBlockA, reduceIte, reduceCtorEq, Nat.reduceEqDiff, if_false, if_true]) | ((first | refine hK _ ?_ | (clear hK K; first | refine hK _ ?_ | (clear hK K; first | refine hK _ ?_ | (clear hK K; first | refine hK _ ?_ | (clear hK K; refine hK _ ?_))))); clear hK K) | refine awp_true rfl rfl ?_ | refine awp_false rfl rfl ?_ | refine awp_block ?_ | ((first | refine CallK.pure (enter73) (same_tri u t) ?_ ?_ | refine CallD.pure (enter73) (same_tri u t) ?_ ?_); (focus first | ((repeat (first | exact trivial | refine ⟨(by first | exact Or.inl rfl | exact Or.inr rfl), ?_⟩)); done) | (simp only [coL, AV.dat, true_or, or_true, AV.d.injEq, go_sem]; done)); simp only [go_sem, em, nm, hv, hg, Option.isSome_some]) | refine And.intro (by first | ((repeat' first | omega | exact trivial | rfl | assumption | (intro a e; subst e; rfl) | exact map_sz fun a => (by simp only [go_sem]) | refine And.intro ?_ ?_); done) | fail) ?_ | fail)
      refine ret_st (by simp only [Try.results44, resOkL, resOk, Try.ntmps44, List.toList_toArray]; first | decide | (simp only [go_sem]; done) | (simp only [go_sem]; and_intros <;> first | omega | rfl | decide)) ?_ (by repeat (first | assumption | exact Ag.stN (by assumption) _ _ | refine Ag.updk ?_ (by omega) _)) (by repeat (first | exact FrN.rfl' _ _ _ | assumption | refine FrN.updk ?_ (by omega) _ | refine FrN.stH ?_ _)) (by assumption)
      simp only [resA, resV, Try.results44, go_sem]
      all_goals try (first | exact .dat rfl | exact Co.t2 (.dat rfl) (.dat rfl) | exact Co.t3 (.dat rfl) (.dat rfl) (.dat rfl))
    | none =>
      have hg : getM p.v (bsE b) = none := by rw [getM_bs, hb]; rfl
      have hpm := putM_bs hb t
      have hcl := mtO_cl mm (b ++ [(p.v, t)]) k
      dsimp only
      repeat' (first | refine awp_seq_k fun K hK => ?_ | ((first | refine awp_region_k (by kernel_rfl) fun R hR => ?_ | refine awp_draw mixed (by kernel_rfl) (by kernel_rfl) fun R hR => ?_); simp only [go_sem, em, nm, hv, hg, hpm, Option.isSome_none, AV.toD, Option.getD_none]) | ((first | (refine hR _ ?_; clear hR R) | refine awp_skip ?_ | refine awp_exit ?_ | refine awp_ret ?_); try simp only [thenA, inBlockA, reduceIte, reduceCtorEq, Nat.reduceEqDiff, if_false, if_true]) | ((first | refine hK _ ?_ | (clear hK K; first | refine hK _ ?_ | (clear hK K; first | refine hK _ ?_ | (clear hK K; first | refine hK _ ?_ | (clear hK K; refine hK _ ?_))))); clear hK K) | refine awp_true rfl rfl ?_ | refine awp_false rfl rfl ?_ | refine awp_block ?_ | refine And.intro (by first | ((repeat' first | omega | exact trivial | rfl | assumption | (intro a e; subst e; rfl) | exact map_sz fun a => (by simp only [go_sem]) | refine And.intro ?_ ?_); done) | fail) ?_ | fail)
      refine ret_st (by simp only [Try.results44, resOkL, resOk, Try.ntmps44, List.toList_toArray]; first | decide | (simp only [go_sem]; done) | (simp only [go_sem]; and_intros <;> first | omega | rfl | decide)) (by simp only [resA, resV, Try.results44, go_sem]; first | exact .dat rfl | exact Co.t2 (.dat rfl) (.dat rfl) | exact Co.t3 (.dat rfl) (.dat rfl) (.dat rfl)) ?_ ?_ ?_
      · refine ⟨fun n hn => ⟨(hag.get n hn).1, ?_⟩⟩
        simp only [List.mem_cons, List.not_mem_nil, or_false] at hn
        subst hn
        simp only [go_sem, nm, mtO]
      · refine FrN.updn (by repeat (first | exact FrN.rfl' _ _ _ | assumption | refine FrN.updk ?_ (by omega) _ | refine FrN.stH ?_ _)) (by simp) _
      · exact hcl
  | false =>
    have hv' : ¬ p.v > 0 := by simpa using hv
    rw [if_neg hv']
    cases h1 : t.v == 0 with
    | false =>
      have hcl := mtO_cl mm b k
      rw [if_neg (by intro h; simp at h1; exact h1 h.1)]
      repeat' (first | refine awp_seq_k fun K hK => ?_ | ((first | refine awp_region_k (by kernel_rfl) fun R hR => ?_ | refine awp_draw mixed (by kernel_rfl) (by kernel_rfl) fun R hR => ?_); simp only [go_sem, em, nm, hv, h1]) | ((first | (refine hR _ ?_; clear hR R) | refine awp_skip ?_ | refine awp_exit ?_ | refine awp_ret ?_); try simp only [thenA, inBlockA, reduceIte, reduceCtorEq, Nat.reduceEqDiff, if_false, if_true]) | ((first | refine hK _ ?_ | (clear hK K; first | refine hK _ ?_ | (clear hK K; first | refine hK _ ?_ | (clear hK K; first | refine hK _ ?_ | (clear hK K; refine hK _ ?_))))); clear hK K) | refine awp_true rfl rfl ?_ | refine awp_false rfl rfl ?_ | refine awp_block ?_ | refine And.intro (by first | ((repeat' first | omega | exact trivial | rfl | assumption | (intro a e; subst e; rfl) | exact map_sz fun a => (by simp only [go_sem]) | refine And.intro ?_ ?_); done) | fail) ?_ | fail)
      refine ret_st (by simp only [Try.results44, resOkL, resOk, Try.ntmps44, List.toList_toArray]; first | decide | (simp only [go_sem]; done) | (simp only [go_sem]; and_intros <;> first | omega | rfl | decide)) ?_ (by repeat (first | assumption | exact Ag.stN (by assumption) _ _ | refine Ag.updk ?_ (by omega) _)) (by repeat (first | exact FrN.rfl' _ _ _ | assumption | refine FrN.updk ?_ (by omega) _ | refine FrN.stH ?_ _)) (by assumption)
      simp only [resA, resV, Try.results44, go_sem]
      all_goals try (first | exact .dat rfl | exact Co.t2 (.dat rfl) (.dat rfl) | exact Co.t3 (.dat rfl) (.dat rfl) (.dat rfl))
    | true =>
      cases h2 : p.f == t.f with
      | false =>
        have hcl := mtO_cl mm b k
        rw [if_neg (by intro h; simp at h2; exact h2 h.2.1)]
        repeat' (first | refine awp_seq_k fun K hK => ?_ | ((first | refine awp_region_k (by kernel_rfl) fun R hR => ?_ | refine awp_draw mixed (by kernel_rfl) (by kernel_rfl) fun R hR => ?_); simp only [go_sem, em, nm, hv, h1, h2]) | ((first | (refine hR _ ?_; clear hR R) | refine awp_skip ?_ | refine awp_exit ?_ | refine awp_ret ?_); try simp only [thenA, inBlockA, reduceIte, reduceCtorEq, Nat.reduceEqDiff, if_false, if_true]) | ((first | refine hK _ ?_ | (clear hK K; first | refine hK _ ?_ | (clear hK K; first | refine hK _ ?_ | (clear hK K; first | refine hK _ ?_ | (clear hK K; refine hK _ ?_))))); clear hK K) | refine awp_true rfl rfl ?_ | refine awp_false rfl rfl ?_ | refine awp_block ?_ | refine And.intro (by first | ((repeat' first | omega | exact trivial | rfl | assumption | (intro a e; subst e; rfl) | exact map_sz fun a => (by simp only [go_sem]) | refine And.intro ?_ ?_); done) | fail) ?_ | fail)
        refine ret_st (by simp only [Try.results44, resOkL, resOk, Try.ntmps44, List.toList_toArray]; first | decide | (simp only [go_sem]; done) | (simp only [go_sem]; and_intros <;> first | omega | rfl | decide)) ?_ (by repeat (first | assumption | exact Ag.stN (by assumption) _ _ | refine Ag.updk ?_ (by omega) _)) (by repeat (first | exact FrN.rfl' _ _ _ | assumption | refine FrN.updk ?_ (by omega) _ | refine FrN.stH ?_ _)) (by assumption)
        simp only [resA, resV, Try.results44, go_sem]
        all_goals try (first | exact .dat rfl | exact Co.t2 (.dat rfl) (.dat rfl) | exact Co.t3 (.dat rfl) (.dat rfl) (.dat rfl))
      | true =>
        have hm2 : mm ≠ (k, 0) := fun e => by rw [e] at hm; simp at hm
        obtain ⟨r, hr⟩ : ∃ r : Bool × Bs, r = if p.us.length = t.us.length then eqS meet p.us t.us b else (false, b) := ⟨_, rfl⟩
        have hr' : (if t.v = 0 ∧ p.f = t.f ∧ p.us.length = t.us.length then meetL p.us t.us b else (false, b)) = r := by
          rw [hr, ← meetL_eqS]
          by_cases h3 : p.us.length = t.us.length
          · rw [if_pos h3, if_pos ⟨by simpa using h1, by simpa using h2, h3⟩]
          · rw [if_neg h3, if_neg (fun h => h3 h.2.2)]
        rw [hr']
        have he := equalF_tri (mtO2 (k, 0) mm) [(k, 0), mm] 75 [.ptr (k, 0) 0] meet (mtO2_cl (k, 0) mm) (enter75) p.us t.us hp (fun x hx y _ s => meet1_tri (ih x hx) y (Ne.symm hm2) s) b r hr
        have hcl := mtO_cl mm r.2 k
        have hA2 : ∀ h : Heap, h (k, 0) = some (.cells 71 [.map mm]) → h mm = some (.map (bsE b)) → Ag (k + 1) [(k, 0), mm] (mtO2 (k, 0) mm b) h := fun h e1 e2 => ⟨fun n hn => by
          simp only [List.mem_cons, List.not_mem_nil, or_false] at hn
          rcases hn with h3 | h3
          · rw [h3]; exact ⟨Nat.lt_succ_self k, by rw [e1]; simp [mtO2]⟩
          · rw [h3]; exact ⟨Nat.lt_succ_of_lt hm, by rw [e2]; simp [mtO2, hm2]⟩⟩
        repeat' (first | refine awp_seq_k fun K hK => ?_ | ((first | refine awp_region_k (by kernel_rfl) fun R hR => ?_ | refine awp_draw mixed (by kernel_rfl) (by kernel_rfl) fun R hR => ?_); simp only [go_sem, em, nm, hv, h1, h2]) | ((first | (refine hR _ ?_; clear hR R) | refine awp_skip ?_ | refine awp_exit ?_ | refine awp_ret ?_); try simp only [thenA, inBlockA, reduceIte, reduceCtorEq, Nat.reduceEqDiff, if_false, if_true]) | ((first | refine hK _ ?_ | (clear hK K; first | refine hK _ ?_ | (clear hK K; first | refine hK _ ?_ | (clear hK K; first | refine hK _ ?_ | (clear hK K; refine hK _ ?_))))); clear hK K) | refine awp_true rfl rfl ?_ | refine awp_false rfl rfl ?_ | refine awp_block ?_ | ((first | refine CallK.chg (enter74) (he) ?_ (hA2 _ (by simp only [go_sem, nm]) (by simp only [go_sem, em, nm])) (Fr.rfl' _ _) ?_ | refine CallD.chg (enter74) (he) ?_ (hA2 _ (by simp only [go_sem, nm]) (by simp only [go_sem, em, nm])) (Fr.rfl' _ _) (by first | assumption | exact List.cons_ne_nil _ _) ?_); (focus first | ((repeat (first | exact trivial | refine ⟨(by first | exact Or.inl rfl | exact Or.inr rfl), ?_⟩)); done) | (simp only [coL, AV.dat, true_or, or_true, AV.d.injEq, go_sem]; done)); simp only [go_sem, em, nm, hv, h1, h2]) | refine And.intro (by first | ((repeat' first | omega | exact trivial | rfl | assumption | (intro a e; subst e; rfl) | exact map_sz fun a => (by simp only [go_sem]) | refine And.intro ?_ ?_); done) | fail) ?_ | fail)
        refine ret_st (by simp only [Try.results44, resOkL, resOk, Try.ntmps44, List.toList_toArray]; first | decide | (simp only [go_sem]; done) | (simp only [go_sem]; and_intros <;> first | omega | rfl | decide)) (by simp only [resA, resV, Try.results44, go_sem]; first | exact .dat rfl | exact Co.t2 (.dat rfl) (.dat rfl) | exact Co.t3 (.dat rfl) (.dat rfl) (.dat rfl)) ?_ ?_ ?_
        · refine ⟨fun n hn => ⟨(hag.get n hn).1, ?_⟩⟩
          simp only [List.mem_cons, List.not_mem_nil, or_false] at hn
          subst hn
          have e3 : mtO2 (k, 0) n r.2 n = .map (bsE r.2) := by simp [mtO2, hm2]
          simp only [go_sem, mtO, e3]
        · intro x hx hxn
          have hxm : x ∉ [(k, 0), mm] := fun h => by
            simp at h hxn
            rcases h with h | h
            · rw [h] at hx; simp at hx
            · exact hxn h
          show stH _ _ _ x = _
          rw [stH_get, if_neg hxm]
          exact ((by repeat (first | exact FrN.rfl' _ _ _ | assumption | refine FrN.updk ?_ (by omega) _ | refine FrN.stH ?_ _)) : FrN k [mm] h0 _) x hx hxn
        · exact hcl
end Go.Proofs.Ytmeekpinkfpnhab
namespace Go.Proofs.Ytmeekpinkfpnhab
mutual
def mapM (step : Tm → Tm × Bool) : Tm → Tm
  | .mk v f us => if (step (.mk v f us)).2 = true then (step (.mk v f us)).1 else .mk v f (mapL step us)
def mapL (step : Tm → Tm × Bool) : List Tm → List Tm
  | [] => []
  | x :: xs => mapM step x :: mapL step xs
end
theorem mapM_eq (step : Tm → Tm × Bool) (t : Tm) : mapM step t = if (step t).2 = true then (step t).1 else .mk t.v t.f (mapL step t.us) := by cases t; rw [mapM]; rfl
theorem mapL_map (step : Tm → Tm × Bool) (us : List Tm) : mapL step us = us.map (mapM step) := by
  induction us with
  | nil => rfl
  | cons x xs ih => rw [mapL, ih, List.map_cons]
theorem mapL_take {step : Tm → Tm × Bool} {us : List Tm} {i : Nat} (hi : i < us.length) : mapL step (us.take (i + 1)) = mapL step (us.take i) ++ [mapM step us[i]] := by
  rw [mapL_map, mapL_map, List.take_succ_eq_append_getElem hi, List.map_append]; rfl
theorem mapL_len (step : Tm → Tm × Bool) (us : List Tm) : (mapL step us).length = us.length := by rw [mapL_map, List.length_map]
def copyS (t : Tm) : Tm × Bool := (t, false)
mutual
theorem copy_id : ∀ t : Tm, mapM copyS t = t
  | .mk v f us => by rw [mapM]; simp only [copyS, Bool.false_eq_true, if_false]; rw [copyL_id us]
theorem copyL_id : ∀ us : List Tm, mapL copyS us = us
  | [] => rfl
  | x :: xs => by rw [mapL, copy_id x, copyL_id xs]
end
def madeS (bs : Bs) (x : Tm) : Tm × Bool := match lookB x.v bs with
  | some u => if x.v > 0 then (u, true) else (x, false)
  | none => (x, false)
mutual
def applyR (bs : Bs) : Tm → Tm
  | .mk v f us => if v > 0 then (match lookB v bs with | some u => u | none => .mk v f us) else .mk 0 f (applyRL bs us)
def applyRL (bs : Bs) : List Tm → List Tm
  | [] => []
  | x :: xs => applyR bs x :: applyRL bs xs
end
theorem applyR_eq (bs : Bs) (t : Tm) : applyR bs t = if t.v > 0 then (match lookB t.v bs with | some u => u | none => t) else .mk 0 t.f (applyRL bs t.us) := by cases t; rw [applyR]; rfl
theorem applyRL_map (bs : Bs) (us : List Tm) : applyRL bs us = us.map (applyR bs) := by
  induction us with
  | nil => rfl
  | cons x xs ih => rw [applyRL, ih, List.map_cons]
def Good (t : Tm) : Prop := ∀ x ∈ parts t, 0 ≤ x.v ∧ (x.v > 0 → x.us = [])
theorem Good.at {v f : Int} {us : List Tm} (h : Good (.mk v f us)) : 0 ≤ v ∧ (v > 0 → us = []) := h (.mk v f us) (by rw [parts]; simp)
theorem Good.kid {t u : Tm} (h : Good t) (hu : u ∈ t.us) : Good u := by
  intro x hx
  refine h x ?_
  rw [parts_eq]
  refine List.mem_append_left _ ?_
  cases t with
  | mk v f us =>
    simp only [Tm.us] at hu ⊢
    clear h
    induction us with
    | nil => cases hu
    | cons y ys ih =>
      rw [partsL, List.mem_append]
      rcases List.mem_cons.1 hu with rfl | hu
      · exact .inl hx
      · exact .inr (ih hu)
theorem own_good {g : List Int} {t : Tm} (h : own g t = 0) : Good t := fun x hx => ⟨own_v h hx, own_bare h x hx⟩
mutual
theorem made_apply (bs : Bs) : ∀ t : Tm, Good t → mapM (madeS bs) t = applyR bs t
  | .mk v f us, h => by
    obtain ⟨h1, h2⟩ := h.at
    rw [mapM, applyR]
    by_cases hv : v > 0
    · rw [if_pos hv]
      have := h2 hv; subst this
      cases hl : lookB v bs with
      | some u => simp [madeS, Tm.v, hl, hv]
      | none => simp [madeS, Tm.v, hl, mapL]
    · rw [if_neg hv, if_neg (by simp only [madeS, Tm.v]; cases lookB v bs <;> simp [hv])]
      obtain rfl : v = 0 := by omega
      rw [madeL_apply bs us fun u hu => h.kid (t := .mk 0 f us) hu]
theorem madeL_apply (bs : Bs) : ∀ us : List Tm, (∀ u ∈ us, Good u) → mapL (madeS bs) us = applyRL bs us
  | [], _ => rfl
  | x :: xs, h => by rw [mapL, applyRL, made_apply bs x (h x (by simp)), madeL_apply bs xs fun u hu => h u (by simp [hu])]
end
def mapLt (f : Tm → Tm) (l : Lt) : Lt := ⟨l.y, f l.a, f l.b⟩
theorem mapLt_same {f g : Tm → Tm} {c : List Lt} (h : ∀ l ∈ c, f l.a = g l.a ∧ f l.b = g l.b) : c.map (mapLt f) = c.map (mapLt g) := by
  refine List.map_congr_left fun l hl => ?_
  unfold mapLt; rw [(h l hl).1, (h l hl).2]
def keepG : List Lt → List Lt → List Lt
  | o, [] => o
  | o, l :: c => if dropB o l = true then keepG o c else keepG (o ++ [l]) c
def keepR : List Lt → List Lt → List Lt
  | _, [] => []
  | p, l :: c => if dropB p l = true then keepR (p ++ [l]) c else l :: keepR (p ++ [l]) c
theorem sidesB_iff (a b : Lt) : sidesB a b = true ↔ (a.a = b.a ∧ a.b = b.b) ∨ (a.a = b.b ∧ a.b = b.a) := by
  unfold sidesB
  rw [Bool.or_eq_true, Bool.and_eq_true, Bool.and_eq_true, same_iff, same_iff, same_iff, same_iff]
theorem sidesB_trans {a b c : Lt} (h1 : sidesB a b = true) (h2 : sidesB b c = true) : sidesB a c = true := by
  rw [sidesB_iff] at *
  rcases h1 with ⟨h1, h3⟩ | ⟨h1, h3⟩ <;> rcases h2 with ⟨h2, h4⟩ | ⟨h2, h4⟩ <;> simp [h1, h2, h3, h4]
theorem dropB_snoc (o : List Lt) (l x : Lt) : dropB (o ++ [l]) x = (dropB o x || (l.y == x.y && sidesB l x)) := by
  unfold dropB; rw [List.any_append]; simp [Bool.or_assoc]
theorem dropB_dropped {p : List Lt} {l x : Lt} (h : dropB p l = true) : dropB (p ++ [l]) x = dropB p x := by
  rw [dropB_snoc]
  cases hq : (l.y == x.y && sidesB l x) with
  | false => rw [Bool.or_false]
  | true =>
    rw [Bool.or_true]
    rw [Bool.and_eq_true, beq_iff_eq] at hq
    obtain ⟨hy, hs⟩ := hq
    symm
    unfold dropB at h ⊢
    rw [Bool.or_eq_true] at h ⊢
    rcases h with h | h
    · left
      rw [Bool.and_eq_true, same_iff] at h ⊢
      rw [← hy]
      refine ⟨h.1, ?_⟩
      rw [sidesB_iff] at hs
      rcases hs with ⟨h1, h2⟩ | ⟨h1, h2⟩
      · rw [← h1, ← h2]; exact h.2
      · rw [← h1, ← h2]; exact h.2.symm
    · right
      rw [List.any_eq_true] at h ⊢
      obtain ⟨z, hz, h⟩ := h
      rw [Bool.and_eq_true, beq_iff_eq] at h
      refine ⟨z, hz, ?_⟩
      rw [Bool.and_eq_true, beq_iff_eq]
      exact ⟨h.1.trans hy, sidesB_trans h.2 hs⟩
theorem keep_eq : ∀ (c o p : List Lt), (∀ x, dropB o x = dropB p x) → keepG o c = o ++ keepR p c
  | [], o, p, _ => by rw [keepG, keepR, List.append_nil]
  | l :: c, o, p, h => by
    rw [keepG, keepR, h l]
    by_cases hd : dropB p l = true
    · rw [if_pos hd, if_pos hd]
      exact keep_eq c o _ fun x => by rw [h x, dropB_dropped hd]
    · rw [if_neg hd, if_neg hd, keep_eq c (o ++ [l]) (p ++ [l]) (fun x => by rw [dropB_snoc, dropB_snoc, h x])]
      simp
theorem keepR_mem : ∀ {c p : List Lt} {x : Lt}, x ∈ keepR p c → x ∈ c
  | l :: c, p, x, h => by
    rw [keepR] at h
    split at h
    · exact List.mem_cons_of_mem _ (keepR_mem h)
    · rcases List.mem_cons.1 h with rfl | h
      · exact List.mem_cons_self
      · exact List.mem_cons_of_mem _ (keepR_mem h)
theorem keepR_len : ∀ (c p : List Lt), (keepR p c).length ≤ c.length
  | [], _ => Nat.le_refl _
  | l :: c, p => by
    rw [keepR]
    split
    · have := keepR_len c (p ++ [l]); simp; omega
    · have := keepR_len c (p ++ [l]); simp; omega
def numBs : List Int → Nat → Bs
  | [], _ => []
  | v :: vs, i => (v, .mk ((i : Int) + 1) 0 []) :: numBs vs (i + 1)
theorem numBs_len : ∀ (vs : List Int) (i : Nat), (numBs vs i).length = vs.length
  | [], _ => rfl
  | v :: vs, i => by rw [numBs, List.length_cons, numBs_len vs, List.length_cons]
theorem numBs_append : ∀ (a b : List Int) (i : Nat), numBs (a ++ b) i = numBs a i ++ numBs b (i + a.length)
  | [], b, i => by simp [numBs]
  | v :: a, b, i => by rw [List.cons_append, numBs, numBs, numBs_append a b]; simp [Nat.add_assoc, Nat.add_comm 1]
theorem numBs_mem : ∀ {vs : List Int} {i : Nat} {p : Int × Tm}, p ∈ numBs vs i → p.1 ∈ vs ∧ p.2.us = [] ∧ p.2.v > 0 ∧ p.2.f = 0
  | v :: vs, i, p, h => by
    rw [numBs] at h
    rcases List.mem_cons.1 h with rfl | h
    · exact ⟨by simp, rfl, by simp only [Tm.v]; omega, rfl⟩
    · obtain ⟨h1, h2⟩ := numBs_mem h
      exact ⟨by simp [h1], h2⟩
def neatG (c : List Lt) : List Lt := (keepG [] c).map (mapLt (mapM (madeS (numBs (addVs [] ((termsOf (keepG [] c)).flatMap pre)) 0))))
def tidyR (c : List Lt) : List Lt := (keepR [] c).map (mapLt (applyR (numBs (firstVars (termsOf (keepR [] c))) 0)))
theorem keep_nil (c : List Lt) : keepG [] c = keepR [] c := by rw [keep_eq c [] [] fun _ => rfl, List.nil_append]
theorem termsOf_mem {c : List Lt} {t : Tm} (h : t ∈ termsOf c) : ∃ l ∈ c, t = l.a ∨ t = l.b := by
  obtain ⟨l, hl, h⟩ := List.mem_flatMap.1 h
  exact ⟨l, hl, by simpa using h⟩
theorem neat_tidy {c : List Lt} (h : ∀ l ∈ c, Good l.a ∧ Good l.b) : neatG c = tidyR c := by
  have hk : ∀ l ∈ keepR [] c, Good l.a ∧ Good l.b := fun l hl => h l (keepR_mem hl)
  have hb : ∀ t ∈ termsOf (keepR [] c), Bare t := fun t ht x hx => by
    obtain ⟨l, hl, rfl | rfl⟩ := termsOf_mem ht
    · exact ((hk l hl).1 x hx).2
    · exact ((hk l hl).2 x hx).2
  unfold neatG tidyR
  rw [keep_nil, stands_eq hb]
  exact mapLt_same fun l hl => ⟨made_apply _ _ (hk l hl).1, made_apply _ _ (hk l hl).2⟩
end Go.Proofs.Ytmeekpinkfpnhab
namespace Go.Proofs.Ytmeekpinkfpnhab
/-! ### lists with keys -/
def lookA {α : Type} (k : Int) : List (Int × α) → Option α
  | [] => none
  | p :: m => if k = p.1 then some p.2 else lookA k m
def putA {α : Type} (k : Int) (x : α) : List (Int × α) → List (Int × α)
  | [] => [(k, x)]
  | p :: m => if k = p.1 then (k, x) :: m else p :: putA k x m
def mapE' {α : Type} (f : α → DV) (l : List (Int × α)) : List (Int × DV) := l.map fun p => (p.1, f p.2)
theorem getM_A {α : Type} (f : α → DV) (k : Int) (l : List (Int × α)) : getM k (mapE' f l) = (lookA k l).map f := by
  induction l with
  | nil => rfl
  | cons p l ih =>
    simp only [mapE', List.map_cons, getM, lookA] at ih ⊢
    by_cases h : k = p.1
    · rw [if_pos h, if_pos h]; rfl
    · rw [if_neg h, if_neg h]; exact ih
theorem putM_A {α : Type} (f : α → DV) (k : Int) (x : α) (l : List (Int × α)) : putM k (f x) (mapE' f l) = mapE' f (putA k x l) := by
  induction l with
  | nil => rfl
  | cons p l ih =>
    simp only [mapE', List.map_cons, putM, putA] at ih ⊢
    by_cases h : k = p.1
    · rw [if_pos h, if_pos h]; rfl
    · rw [if_neg h, if_neg h, ih]; rfl
theorem lookB_A (k : Int) (b : Bs) : lookB k b = lookA k b := by
  induction b with
  | nil => rfl
  | cons p b ih => rw [lookB, lookA, ih]
/-! ### the unifier -/
def rootF : Nat → Bs → Tm → Option Tm
  | 0, _, _ => none
  | n + 1, b, t => if t.v > 0 then (match lookB t.v b with | none => some t | some x => if x.v = 0 then some t else rootF n b x) else some t
def anyO {S : Type} (step : Tm → S → Option (Bool × S)) : List Tm → S → Option (Bool × S)
  | [], s => some (false, s)
  | u :: us, s => match step u s with
    | none => none
    | some (true, s') => some (true, s')
    | some (false, s') => anyO step us s'
def eqO {S : Type} (step : Tm → Tm → S → Option (Bool × S)) : List Tm → List Tm → S → Option (Bool × S)
  | x :: xs, y :: ys, s => match step x y s with
    | none => none
    | some (true, s') => eqO step xs ys s'
    | some (false, s') => some (false, s')
  | _, _, s => some (true, s)
def leadsF : Nat → Bs → Int → Tm → List (Int × Bool) → Option (Bool × List (Int × Bool))
  | 0, _, _, _, _ => none
  | n + 1, b, v, t, met =>
    if t.v = 0 then anyO (leadsF n b v) t.us met
    else if t.v = v then some (true, met)
    else if lookA t.v met = some true then some (false, met)
    else match lookB t.v b with
      | none => some (false, putA t.v true met)
      | some x => leadsF n b v x (putA t.v true met)
def bindF (n : Nat) (b : Bs) (v : Int) (t : Tm) : Option (Bool × Bs) := (leadsF n (putA v t b) v t []).map fun r => (!r.1, putA v t b)
def oneV (one : Bs → Tm → Tm → Option (Bool × Bs)) (n : Nat) (b : Bs) (a c : Tm) : Option (Bool × Bs) :=
  if c.v = 0 then (match lookB a.v b with | some x => one b x c | none => bindF n b a.v c)
  else if a.v = c.v then some (true, b)
  else match lookB a.v b, lookB c.v b with
    | some x, some y => (match bindF n b c.v a with
      | none => none
      | some (false, b') => some (false, b')
      | some (true, b') => one b' x y)
    | some _, none => bindF n b c.v a
    | none, some _ => bindF n b a.v c
    | none, none => bindF n b (if c.v > a.v then c.v else a.v) (.mk (if c.v < a.v then c.v else a.v) 0 [])
def oneF : Nat → Bs → Tm → Tm → Option (Bool × Bs)
  | 0, _, _, _ => none
  | n + 1, b, x, y =>
    match rootF n b x, rootF n b y with
    | some a, some c =>
      if a.v = 0 ∧ c.v = 0 then
        if a.f = c.f then (if a.us.length = c.us.length then eqO (fun x y s => oneF n s x y) a.us c.us b else some (false, b)) else some (false, b)
      else if a.v = 0 then oneV (oneF n) n b c a else oneV (oneF n) n b a c
    | _, _ => none
def sizeL (step : Tm → List (Int × Int) → Option (Int × List (Int × Int))) : List Tm → Int → List (Int × Int) → Option (Int × List (Int × Int))
  | [], a, kn => some (a, kn)
  | u :: us, a, kn => match step u kn with
    | none => none
    | some r => sizeL step us (if 1000 < a + r.1 then 1000 else a + r.1) r.2
def sizeF : Nat → Bs → Tm → List (Int × Int) → Option (Int × List (Int × Int))
  | 0, _, _, _ => none
  | n + 1, b, t, kn =>
    if t.v > 0 then (match lookB t.v b with
      | none => some (1, kn)
      | some x => (match lookA t.v kn with
        | some s => some (s, kn)
        | none => (sizeF n b x kn).map fun r => (r.1, putA t.v r.1 r.2)))
    else sizeL (sizeF n b) t.us 1 kn
def thruS (thru : Tm → Tm) (b : Bs) (x : Tm) : Tm × Bool := match lookB x.v b with
  | some y => if x.v > 0 then (thru y, true) else (x, false)
  | none => (x, false)
def thruT : Nat → Bs → Tm → Tm
  | 0, _, t => t
  | n + 1, b, t => mapM (thruS (thruT n b) b) t
def thruOk : Nat → Bs → Tm → Bool
  | 0, _, _ => false
  | n + 1, b, t => (pre t).all fun x => match lookB x.v b with
    | some y => !decide (x.v > 0) || thruOk n b y
    | none => true
theorem un_one : oneF 5 [] (.mk 0 1 [.mk 2 0 []]) (.mk 0 1 [.mk 0 0 []]) = some (true, [(2, .mk 0 0 [])]) := by rfl
theorem un_size : sizeF 5 [(2, .mk 0 0 [])] (.mk 0 1 [.mk 2 0 []]) [] = some (2, [(2, 1)]) := by rfl
theorem un_size2 : sizeF 5 [(2, .mk 0 0 [])] (.mk 0 0 []) [(2, 1)] = some (1, [(2, 1)]) := by rfl
theorem un_thru : thruT 5 [(2, .mk 0 0 [])] (.mk 0 0 []) = .mk 0 0 [] := by rfl
theorem un_thruOk : thruOk 5 [(2, .mk 0 0 [])] (.mk 0 0 []) = true := by rfl
end Go.Proofs.Ytmeekpinkfpnhab
namespace Go.Proofs.Ytmeekpinkfpnhab
open Go.RowKit
theorem awp_loopN {P : Program} {w0 : World} {n : Nat} {Q : Exit → St → Prop} {s : St} {c : Code} (I : Nat → St → Prop) (h0 : ∃ j, I j s) (round : ∀ j s, I j s → awp P w0 n c (thenA (fun s' => ∃ j', j' < j ∧ I j' s') Q) s) : awp P w0 n (.loop c) Q s := by
  obtain ⟨j0, h0⟩ := h0
  intro m β a w h1 h2 h3 b k cs
  have key : ∀ N s m β a w, I N s → a.tmps.size = n → HRel P w0 s.h s.k m β w → TRel m β s.t a.tmps →
      ∃ e a' w', (∃ s' m' β', Q e s' ∧ a'.tmps.size = n ∧ a'.defers = a.defers ∧ s.k ≤ s'.k ∧ Goes P w0 m β s' m' β' a' w' ∧ ∀ x, x.1 < s.k → β x = none → β' x = none) ∧ Arrives P (lone (b.at a (.code c :: .inLoop c :: k)) cs w) b k cs e a' w' := by
    intro N
    induction N using Nat.strongRecOn with
    | _ N ih =>
      intro s m β a w hI h1 h2 h3
      obtain ⟨e, a₁, w₁, ⟨s', m', β', hq, g1, g2, g3, g4, g5⟩, harr⟩ := round N s hI m β a w h1 h2 h3 b (.inLoop c :: k) cs
      cases e with
      | normal =>
        obtain ⟨j', hlt, hI₁⟩ := hq
        obtain ⟨e₂, a₂, w₂, ⟨s'', m'', β'', hq₂, k1, k2, k3, k4, k5⟩, harr₂⟩ := ih j' hlt s' m' β' a₁ w₁ hI₁ g1 g4.heap g4.slots
        exact ⟨e₂, a₂, w₂, ⟨s'', m'', β'', hq₂, k1, k2.trans g2, by omega, ⟨g4.mem.trans k4.mem, g4.bl.trans k4.bl, k4.heap, k4.slots⟩, fun x hx h0 => k5 x (by omega) (g5 x hx h0)⟩, .of_steps (Steps.trans harr (.one step_inLoop)) harr₂⟩
      | exit id => exact ⟨_, a₁, w₁, ⟨s', m', β', hq, g1, g2, g3, g4, g5⟩, .pass (x := .inLoop c) rfl (fun _ _ => .inl (by simp)) harr⟩
      | goto l => exact ⟨_, a₁, w₁, ⟨s', m', β', hq, g1, g2, g3, g4, g5⟩, .pass (x := .inLoop c) rfl (fun _ _ => .inl (by simp)) harr⟩
      | ret => exact ⟨_, a₁, w₁, ⟨s', m', β', hq, g1, g2, g3, g4, g5⟩, .pass (x := .inLoop c) rfl (fun _ _ => .inl (by simp)) harr⟩
      | panic ch => exact ⟨_, a₁, w₁, ⟨s', m', β', hq, g1, g2, g3, g4, g5⟩, .pass (x := .inLoop c) rfl (fun _ _ => .inl (by simp)) harr⟩
      | outgrown => exact ⟨_, a₁, w₁, ⟨s', m', β', hq, g1, g2, g3, g4, g5⟩, .pass (x := .inLoop c) rfl (fun _ _ => .inl (by simp)) harr⟩
  obtain ⟨e, a', w', hq, harr⟩ := key j0 s m β a w h0 h1 h2 h3
  exact ⟨e, a', w', hq, .of_steps (.one step_loop) harr⟩
end Go.Proofs.Ytmeekpinkfpnhab
namespace Go.Proofs.Ytmeekpinkfpnhab
open Go.RowKit
theorem co_tm {k : Nat} {ren : Ren} {v f : Int} {a : AV} {us : List Tm} (h : a.toD? = some (.sl (us.map tmDV))) : Co k ren (.st [iA v, iA f, a]) (.d (tmDV (.mk v f us))) :=
  .dat (by simp only [AV.toD?, allD, h]; rw [tmDV_eq]; rfl)
set_option maxRecDepth 20000 in
theorem small_tri : Tri Try.prog 40 [] (pure' (.d (sgDV [0, 1]))) := by
  refine tri_enter Try.func40 rfl Try.ntmps40 (by simp only [List.length_cons, List.length_nil]; omega) fun w0 h0 k hrd hwr => ?_
  repeat' (first | refine awp_seq_k fun K hK => ?_ | ((first | refine awp_region_k (by kernel_rfl) fun R hR => ?_ | refine awp_draw mixed (by kernel_rfl) (by kernel_rfl) fun R hR => ?_); simp only [go_sem]) | ((first | (refine hR _ ?_; clear hR R) | refine awp_skip ?_ | refine awp_exit ?_ | refine awp_ret ?_); try simp only [thenA, inBlockA, reduceIte, reduceCtorEq, Nat.reduceEqDiff, if_false, if_true]) | ((first | refine hK _ ?_ | (clear hK K; first | refine hK _ ?_ | (clear hK K; first | refine hK _ ?_ | (clear hK K; first | refine hK _ ?_ | (clear hK K; refine hK _ ?_))))); clear hK K) | refine awp_true rfl rfl ?_ | refine awp_false rfl rfl ?_ | refine awp_block ?_ | refine And.intro (by first | ((repeat' first | omega | exact trivial | rfl | assumption | (intro a e; subst e; rfl) | exact map_sz fun a => (by simp only [go_sem]) | refine And.intro ?_ ?_); done) | fail) ?_ | fail)
  (first | refine ret_pure ?_ ?_ ?_ | refine ret_ro ?_ ?_ ?_); focus exact (by simp only [Try.results40, resOkL, resOk, Try.ntmps40, List.toList_toArray]; first | decide | (simp only [go_sem]; done) | (simp only [go_sem]; and_intros <;> first | omega | rfl | decide))
  rotate_left; focus exact (by repeat (first | exact Fr.rfl' _ _ | assumption | refine Fr.updk ?_ (by omega) _))
  simp only [resA, resV, Try.results40, go_sem]
  all_goals try (first | exact Co.t2 (.dat rfl) (.dat rfl) | exact Co.t3 (.dat rfl) (.dat rfl) (.dat rfl))
  exact .dat rfl
set_option maxRecDepth 20000 in
theorem fn_tri (n : Int) (us : List Tm) : Tri Try.prog 41 [iA n, .d (.sl (us.map tmDV))] (pure' (.d (tmDV (.mk 0 n us)))) := by
  refine tri_enter Try.func41 rfl Try.ntmps41 (by simp only [List.length_cons, List.length_nil]; omega) fun w0 h0 k hrd hwr => ?_
  repeat' (first | refine awp_seq_k fun K hK => ?_ | ((first | refine awp_region_k (by kernel_rfl) fun R hR => ?_ | refine awp_draw mixed (by kernel_rfl) (by kernel_rfl) fun R hR => ?_); simp only [go_sem]) | ((first | (refine hR _ ?_; clear hR R) | refine awp_skip ?_ | refine awp_exit ?_ | refine awp_ret ?_); try simp only [thenA, inBlockA, reduceIte, reduceCtorEq, Nat.reduceEqDiff, if_false, if_true]) | ((first | refine hK _ ?_ | (clear hK K; first | refine hK _ ?_ | (clear hK K; first | refine hK _ ?_ | (clear hK K; first | refine hK _ ?_ | (clear hK K; refine hK _ ?_))))); clear hK K) | refine awp_true rfl rfl ?_ | refine awp_false rfl rfl ?_ | refine awp_block ?_ | refine And.intro (by first | ((repeat' first | omega | exact trivial | rfl | assumption | (intro a e; subst e; rfl) | exact map_sz fun a => (by simp only [go_sem]) | refine And.intro ?_ ?_); done) | fail) ?_ | fail)
  (first | refine ret_pure ?_ ?_ ?_ | refine ret_ro ?_ ?_ ?_); focus exact (by simp only [Try.results41, resOkL, resOk, Try.ntmps41, List.toList_toArray]; first | decide | (simp only [go_sem]; done) | (simp only [go_sem]; and_intros <;> first | omega | rfl | decide))
  rotate_left; focus exact (by repeat (first | exact Fr.rfl' _ _ | assumption | refine Fr.updk ?_ (by omega) _))
  simp only [resA, resV, Try.results41, go_sem]
  all_goals try (first | exact Co.t2 (.dat rfl) (.dat rfl) | exact Co.t3 (.dat rfl) (.dat rfl) (.dat rfl))
  exact co_tm rfl
set_option maxRecDepth 20000 in
theorem va_tri (n : Int) : Tri Try.prog 42 [iA n] (pure' (.d (tmDV (.mk n 0 [])))) := by
  refine tri_enter Try.func42 rfl Try.ntmps42 (by simp only [List.length_cons, List.length_nil]; omega) fun w0 h0 k hrd hwr => ?_
  repeat' (first | refine awp_seq_k fun K hK => ?_ | ((first | refine awp_region_k (by kernel_rfl) fun R hR => ?_ | refine awp_draw mixed (by kernel_rfl) (by kernel_rfl) fun R hR => ?_); simp only [go_sem]) | ((first | (refine hR _ ?_; clear hR R) | refine awp_skip ?_ | refine awp_exit ?_ | refine awp_ret ?_); try simp only [thenA, inBlockA, reduceIte, reduceCtorEq, Nat.reduceEqDiff, if_false, if_true]) | ((first | refine hK _ ?_ | (clear hK K; first | refine hK _ ?_ | (clear hK K; first | refine hK _ ?_ | (clear hK K; first | refine hK _ ?_ | (clear hK K; refine hK _ ?_))))); clear hK K) | refine awp_true rfl rfl ?_ | refine awp_false rfl rfl ?_ | refine awp_block ?_ | refine And.intro (by first | ((repeat' first | omega | exact trivial | rfl | assumption | (intro a e; subst e; rfl) | exact map_sz fun a => (by simp only [go_sem]) | refine And.intro ?_ ?_); done) | fail) ?_ | fail)
  (first | refine ret_pure ?_ ?_ ?_ | refine ret_ro ?_ ?_ ?_); focus exact (by simp only [Try.results42, resOkL, resOk, Try.ntmps42, List.toList_toArray]; first | decide | (simp only [go_sem]; done) | (simp only [go_sem]; and_intros <;> first | omega | rfl | decide))
  rotate_left; focus exact (by repeat (first | exact Fr.rfl' _ _ | assumption | refine Fr.updk ?_ (by omega) _))
  simp only [resA, resV, Try.results42, go_sem]
  all_goals try (first | exact Co.t2 (.dat rfl) (.dat rfl) | exact Co.t3 (.dat rfl) (.dat rfl) (.dat rfl))
  exact co_tm rfl
end Go.Proofs.Ytmeekpinkfpnhab
namespace Go.Proofs.Ytmeekpinkfpnhab
open Go.RowKit
theorem co_tm' {k : Nat} {ren : Ren} {t : Tm} {a : AV} (h : a.toD? = some (.sl (t.us.map tmDV))) : Co k ren (.st [iA t.v, iA t.f, a]) (.d (tmDV t)) :=
  .dat (by simp only [AV.toD?, allD, h]; rw [tmDV_eq]; rfl)
section
variable (g : FuncId) (caps : List AV) (ro : List (Nm × Ob)) (step : Tm → Tm × Bool) (hg : enterOk Try.prog g)
def MapSpec (t : Tm) : Prop := t.size ≤ 4000000 → (∀ x ∈ pre t, Tri Try.prog g ([.d (tmDV x)] ++ caps) (rdE ro (.tup [.d (tmDV (step x).1), bA (step x).2]))) → Tri Try.prog 94 [.d (tmDV t), .fn (.func g) [] caps] (rdE ro (.d (tmDV (mapM step t))))
include hg
set_option maxRecDepth 20000 in
theorem mapped_step (t : Tm) (ih : ∀ u ∈ t.us, MapSpec g caps ro step u) : MapSpec g caps ro step t := by
  intro hsz hdo
  have hlen := t.len_lt
  have hd0 := hdo t (by rw [pre_eq]; simp)
  rw [mapM_eq]
  refine tri_enter_ro Try.func94 rfl Try.ntmps94 (by simp only [List.length_cons, List.length_nil]; omega) fun w0 h0 k hro => ?_
  cases h1 : (step t).2 with
  | true =>
    rw [h1] at hd0
    generalize (step t).1 = u at *
    simp only [if_true]
    repeat' (first | refine awp_seq_k fun K hK => ?_ | ((first | refine awp_region_k (by kernel_rfl) fun R hR => ?_ | refine awp_draw mixed (by kernel_rfl) (by kernel_rfl) fun R hR => ?_); simp only [go_sem]) | ((first | (refine hR _ ?_; clear hR R) | refine awp_skip ?_ | refine awp_exit ?_ | refine awp_ret ?_); try simp only [thenA, inBlockA, reduceIte, reduceCtorEq, Nat.reduceEqDiff, if_false, if_true]) | ((first | refine hK _ ?_ | (clear hK K; first | refine hK _ ?_ | (clear hK K; first | refine hK _ ?_ | (clear hK K; first | refine hK _ ?_ | (clear hK K; refine hK _ ?_))))); clear hK K) | refine awp_true rfl rfl ?_ | refine awp_false rfl rfl ?_ | refine awp_block ?_ | ((first | refine CallK.vlook rfl (hg) (hd0) ?_ (by assumption) (by repeat (first | exact Fr.rfl' _ _ | assumption | refine Fr.updk ?_ (by omega) _)) ?_ | refine CallD.vlook rfl (hg) (hd0) ?_ (by assumption) (by repeat (first | exact Fr.rfl' _ _ | assumption | refine Fr.updk ?_ (by omega) _)) (by first | assumption | exact List.cons_ne_nil _ _) ?_); (focus first | ((repeat (first | exact trivial | refine ⟨(by first | exact Or.inl rfl | exact Or.inr rfl), ?_⟩)); done) | (simp only [coL, AV.dat, true_or, or_true, AV.d.injEq, go_sem]; done)); simp only [go_sem]) | refine And.intro (by first | ((repeat' first | omega | exact trivial | rfl | assumption | (intro a e; subst e; rfl) | exact map_sz fun a => (by simp only [go_sem]) | refine And.intro ?_ ?_); done) | fail) ?_ | fail)
    (first | refine ret_pure ?_ ?_ ?_ | refine ret_ro ?_ ?_ ?_); focus exact (by simp only [Try.results94, resOkL, resOk, Try.ntmps94, List.toList_toArray]; first | decide | (simp only [go_sem]; done) | (simp only [go_sem]; and_intros <;> first | omega | rfl | decide))
    rotate_left; focus exact (by repeat (first | exact Fr.rfl' _ _ | assumption | refine Fr.updk ?_ (by omega) _))
    simp only [resA, resV, Try.results94, go_sem]
    all_goals try (first | exact Co.t2 (.dat rfl) (.dat rfl) | exact Co.t3 (.dat rfl) (.dat rfl) (.dat rfl))
    exact co_tm' rfl
  | false =>
    rw [h1] at hd0
    generalize (step t).1 = u at *
    simp only [Bool.false_eq_true, if_false]
    repeat' (first | refine awp_ghost (ghost_nil (i := 7) (e := 28) rfl) ?_ | refine awp_seq_k fun K hK => ?_ | ((first | refine awp_region_k (by kernel_rfl) fun R hR => ?_ | refine awp_draw mixed (by kernel_rfl) (by kernel_rfl) fun R hR => ?_); simp only [go_sem]) | ((first | (refine hR _ ?_; clear hR R) | refine awp_skip ?_ | refine awp_exit ?_ | refine awp_ret ?_); try simp only [thenA, inBlockA, reduceIte, reduceCtorEq, Nat.reduceEqDiff, if_false, if_true]) | ((first | refine hK _ ?_ | (clear hK K; first | refine hK _ ?_ | (clear hK K; first | refine hK _ ?_ | (clear hK K; first | refine hK _ ?_ | (clear hK K; refine hK _ ?_))))); clear hK K) | refine awp_true rfl rfl ?_ | refine awp_false rfl rfl ?_ | refine awp_block ?_ | ((first | refine CallK.vlook rfl (hg) (hd0) ?_ (by assumption) (by repeat (first | exact Fr.rfl' _ _ | assumption | refine Fr.updk ?_ (by omega) _)) ?_ | refine CallD.vlook rfl (hg) (hd0) ?_ (by assumption) (by repeat (first | exact Fr.rfl' _ _ | assumption | refine Fr.updk ?_ (by omega) _)) (by first | assumption | exact List.cons_ne_nil _ _) ?_); (focus first | ((repeat (first | exact trivial | refine ⟨(by first | exact Or.inl rfl | exact Or.inr rfl), ?_⟩)); done) | (simp only [coL, AV.dat, true_or, or_true, AV.d.injEq, go_sem]; done)); simp only [go_sem]) | refine And.intro (by first | ((repeat' first | omega | exact trivial | rfl | assumption | (intro a e; subst e; rfl) | exact map_sz fun a => (by simp only [go_sem]) | refine And.intro ?_ ?_); done) | fail) ?_ | fail)
    refine awp_loop (fun σ => ∃ i : Nat, σ.t 1 = .fn (.func g) [] caps ∧ σ.t 2 = .ptr (k, 0) 0 ∧ σ.t 4 = .ptr (k, 1) 0 ∧ σ.t 7 = .own (k + 1 + 1 + 1 + 1, 0) ((mapL step (t.us.take i)).map tmDV) ∧ σ.t 19 = .d (.sl (t.us.map tmDV)) ∧ σ.t 20 = iA t.us.length ∧ σ.t 21 = iA i ∧
      σ.h (k, 0) = some (.cells 28 [iA t.v, iA t.f, .d (.sl (t.us.map tmDV))]) ∧ σ.h (k, 1) = some (.cells 28 [iA 0, iA 0, .nil]) ∧ σ.h (k + 1 + 1 + 1 + 1, 0) = some (.perm 28 (mapL step (t.us.take i)).length) ∧ Fr k h0 σ.h ∧ k + 1 + 1 + 1 + 1 < σ.k ∧ i ≤ t.us.length) (fun σ => t.us.length - (intOf' (σ.t 21)).toNat) ?_ ?_
    · refine ⟨0, ?_⟩
      simp only [go_sem, List.take_zero, mapL]
      and_intros; all_goals try (first | rfl | omega | assumption | ((repeat (first | exact Fr.rfl' _ _ | assumption | refine Fr.updk ?_ (by omega) _)); done))
    · rintro σ ⟨i, s1, s2, s4, s7, s19, s20, s21, sh, sh', sp, hF, hk, hi⟩
      have hne := ltne (show k < σ.k by omega)
      have hne2 := ltne hk
      have hml := mapL_len step (t.us.take i)
      rw [List.length_take] at hml
      rcases Nat.lt_or_ge i t.us.length with hlt | hge
      · have hz : (i : Int) < (t.us.length : Int) := by omega
        have e1 : (t.us.map tmDV).getD i default = tmDV t.us[i] := nth_map tmDV hlt _
        have hs := Tm.size_at hlt
        have h2 := ih _ (List.getElem_mem hlt) (by omega) (fun x hx => hdo x (by rw [pre_eq]; exact List.mem_cons_of_mem _ (preL_mem (List.getElem_mem hlt) hx)))
        have etk : (mapL step (t.us.take i)).map tmDV ++ [tmDV (mapM step t.us[i])] = (mapL step (t.us.take (i + 1))).map tmDV := by rw [mapL_take hlt]; simp
        repeat' (first | refine awp_seq_k fun K hK => ?_ | ((first | refine awp_region_k (by kernel_rfl) fun R hR => ?_ | refine awp_draw mixed (by kernel_rfl) (by kernel_rfl) fun R hR => ?_); simp only [go_sem, s1, s2, s4, s7, s19, s20, s21, sh, sh', sp, hz, e1, hne, hne2, List.length_map, Int.toNat_natCast]) | ((first | (refine hR _ ?_; clear hR R) | refine awp_skip ?_ | refine awp_exit ?_ | refine awp_ret ?_); try simp only [thenA, inBlockA, reduceIte, reduceCtorEq, Nat.reduceEqDiff, if_false, if_true]) | ((first | refine hK _ ?_ | (clear hK K; first | refine hK _ ?_ | (clear hK K; first | refine hK _ ?_ | (clear hK K; first | refine hK _ ?_ | (clear hK K; refine hK _ ?_))))); clear hK K) | refine awp_true rfl rfl ?_ | refine awp_false rfl rfl ?_ | refine awp_block ?_ | ((first | refine CallK.look (enter94) (h2) ?_ (by assumption) (by repeat (first | exact Fr.rfl' _ _ | assumption | refine Fr.updk ?_ (by omega) _)) ?_ | refine CallD.look (enter94) (h2) ?_ (by assumption) (by repeat (first | exact Fr.rfl' _ _ | assumption | refine Fr.updk ?_ (by omega) _)) (by first | assumption | exact List.cons_ne_nil _ _) ?_); (focus first | ((repeat (first | exact trivial | refine ⟨(by first | exact Or.inl rfl | exact Or.inr rfl), ?_⟩)); done) | (simp only [coL, AV.dat, true_or, or_true, AV.d.injEq, go_sem]; done)); simp only [go_sem, s1, s2, s4, s7, s19, s20, s21, sh, sh', sp, hz, e1, hne, hne2, List.length_map, Int.toNat_natCast]) | refine And.intro (by first | ((repeat' first | omega | exact trivial | rfl | assumption | (intro a e; subst e; rfl) | exact map_sz fun a => (by simp only [go_sem]) | refine And.intro ?_ ?_); done) | fail) ?_ | fail)
        refine ⟨⟨i + 1, ?_⟩, ?_⟩
        rotate_left
        · simp only [go_sem, s1, s2, s4, s7, s19, s20, s21, sh, sh', sp, hne, hne2, etk, List.length_map]; omega
        simp only [go_sem, s1, s2, s4, s7, s19, s20, s21, sh, sh', sp, hne, hne2, etk, List.length_map]
        and_intros; all_goals try (first | rfl | omega | assumption | ((repeat (first | exact Fr.rfl' _ _ | assumption | refine Fr.updk ?_ (by omega) _)); done))
      · have hz : ¬ ((i : Int) < (t.us.length : Int)) := by omega
        obtain rfl : i = t.us.length := by omega
        rw [List.take_length] at s7 sp
        repeat' (first | refine awp_seq_k fun K hK => ?_ | ((first | refine awp_region_k (by kernel_rfl) fun R hR => ?_ | refine awp_draw mixed (by kernel_rfl) (by kernel_rfl) fun R hR => ?_); simp only [go_sem, s1, s2, s4, s7, s20, s21, sh, sh', sp, hz, hne, hne2]) | ((first | (refine hR _ ?_; clear hR R) | refine awp_skip ?_ | refine awp_exit ?_ | refine awp_ret ?_); try simp only [thenA, inBlockA, reduceIte, reduceCtorEq, Nat.reduceEqDiff, if_false, if_true]) | ((first | refine hK _ ?_ | (clear hK K; first | refine hK _ ?_ | (clear hK K; first | refine hK _ ?_ | (clear hK K; first | refine hK _ ?_ | (clear hK K; refine hK _ ?_))))); clear hK K) | refine awp_true rfl rfl ?_ | refine awp_false rfl rfl ?_ | refine awp_block ?_ | refine And.intro (by first | ((repeat' first | omega | exact trivial | rfl | assumption | (intro a e; subst e; rfl) | exact map_sz fun a => (by simp only [go_sem]) | refine And.intro ?_ ?_); done) | fail) ?_ | fail)
        (first | refine ret_pure ?_ ?_ ?_ | refine ret_ro ?_ ?_ ?_); focus exact (by simp only [Try.results94, resOkL, resOk, Try.ntmps94, List.toList_toArray]; first | decide | (simp only [go_sem, s4, hne, hne2]; done) | (simp only [go_sem, s4, hne, hne2]; and_intros <;> first | omega | rfl | decide))
        rotate_left; focus exact (by repeat (first | exact Fr.rfl' _ _ | assumption | refine Fr.updk ?_ (by omega) _))
        simp only [resA, resV, Try.results94, go_sem, s4, hne, hne2]
        all_goals try (first | exact Co.t2 (.dat rfl) (.dat rfl) | exact Co.t3 (.dat rfl) (.dat rfl) (.dat rfl))
        exact co_tm rfl
theorem mapped_tri : ∀ t : Tm, MapSpec g caps ro step t := Tm.ind (mapped_step g caps ro step hg)
end
set_option maxRecDepth 20000 in
theorem copied1_tri (t : Tm) : Tri Try.prog 95 [.d (tmDV t)] (rdE [] (.tup [.d (tmDV t), bA false])) := by
  refine tri_enter_ro Try.func95 rfl Try.ntmps95 (by simp only [List.length_cons, List.length_nil]; omega) fun w0 h0 k hro => ?_
  repeat' (first | refine awp_seq_k fun K hK => ?_ | ((first | refine awp_region_k (by kernel_rfl) fun R hR => ?_ | refine awp_draw mixed (by kernel_rfl) (by kernel_rfl) fun R hR => ?_); simp only [go_sem]) | ((first | (refine hR _ ?_; clear hR R) | refine awp_skip ?_ | refine awp_exit ?_ | refine awp_ret ?_); try simp only [thenA, inBlockA, reduceIte, reduceCtorEq, Nat.reduceEqDiff, if_false, if_true]) | ((first | refine hK _ ?_ | (clear hK K; first | refine hK _ ?_ | (clear hK K; first | refine hK _ ?_ | (clear hK K; first | refine hK _ ?_ | (clear hK K; refine hK _ ?_))))); clear hK K) | refine awp_true rfl rfl ?_ | refine awp_false rfl rfl ?_ | refine awp_block ?_ | refine And.intro (by first | ((repeat' first | omega | exact trivial | rfl | assumption | (intro a e; subst e; rfl) | exact map_sz fun a => (by simp only [go_sem]) | refine And.intro ?_ ?_); done) | fail) ?_ | fail)
  (first | refine ret_pure ?_ ?_ ?_ | refine ret_ro ?_ ?_ ?_); focus exact (by simp only [Try.results95, resOkL, resOk, Try.ntmps95, List.toList_toArray]; first | decide | (simp only [go_sem]; done) | (simp only [go_sem]; and_intros <;> first | omega | rfl | decide))
  rotate_left; focus exact (by repeat (first | exact Fr.rfl' _ _ | assumption | refine Fr.updk ?_ (by omega) _))
  simp only [resA, resV, Try.results95, go_sem]
  all_goals try (first | exact Co.t2 (.dat rfl) (.dat rfl) | exact Co.t3 (.dat rfl) (.dat rfl) (.dat rfl))
  exact .t2 (co_tm' rfl) (.dat rfl)
set_option maxRecDepth 20000 in
theorem copied_tri (t : Tm) (ht : t.size ≤ 4000000) : Tri Try.prog 56 [.d (tmDV t)] (pure' (.d (tmDV t))) := by
  have h := mapped_tri 95 [] [] copyS (enter95) t ht (fun x _ => copied1_tri x)
  rw [copy_id, rdE_nil] at h
  refine tri_enter Try.func56 rfl Try.ntmps56 (by simp only [List.length_cons, List.length_nil]; omega) fun w0 h0 k hrd hwr => ?_
  repeat' (first | refine awp_seq_k fun K hK => ?_ | ((first | refine awp_region_k (by kernel_rfl) fun R hR => ?_ | refine awp_draw mixed (by kernel_rfl) (by kernel_rfl) fun R hR => ?_); simp only [go_sem]) | ((first | (refine hR _ ?_; clear hR R) | refine awp_skip ?_ | refine awp_exit ?_ | refine awp_ret ?_); try simp only [thenA, inBlockA, reduceIte, reduceCtorEq, Nat.reduceEqDiff, if_false, if_true]) | ((first | refine hK _ ?_ | (clear hK K; first | refine hK _ ?_ | (clear hK K; first | refine hK _ ?_ | (clear hK K; first | refine hK _ ?_ | (clear hK K; refine hK _ ?_))))); clear hK K) | refine awp_true rfl rfl ?_ | refine awp_false rfl rfl ?_ | refine awp_block ?_ | ((first | refine CallK.pure (enter94) (h) ?_ ?_ | refine CallD.pure (enter94) (h) ?_ ?_); (focus first | ((repeat (first | exact trivial | refine ⟨(by first | exact Or.inl rfl | exact Or.inr rfl), ?_⟩)); done) | (simp only [coL, AV.dat, true_or, or_true, AV.d.injEq, go_sem]; done)); simp only [go_sem]) | refine And.intro (by first | ((repeat' first | omega | exact trivial | rfl | assumption | (intro a e; subst e; rfl) | exact map_sz fun a => (by simp only [go_sem]) | refine And.intro ?_ ?_); done) | fail) ?_ | fail)
  (first | refine ret_pure ?_ ?_ ?_ | refine ret_ro ?_ ?_ ?_); focus exact (by simp only [Try.results56, resOkL, resOk, Try.ntmps56, List.toList_toArray]; first | decide | (simp only [go_sem]; done) | (simp only [go_sem]; and_intros <;> first | omega | rfl | decide))
  rotate_left; focus exact (by repeat (first | exact Fr.rfl' _ _ | assumption | refine Fr.updk ?_ (by omega) _))
  simp only [resA, resV, Try.results56, go_sem]
  all_goals try (first | exact Co.t2 (.dat rfl) (.dat rfl) | exact Co.t3 (.dat rfl) (.dat rfl) (.dat rfl))
  exact co_tm' rfl
end Go.Proofs.Ytmeekpinkfpnhab
namespace Go.Proofs.Ytmeekpinkfpnhab
open Go.RowKit
theorem bsE_A (b : Bs) : bsE b = mapE' tmDV b := rfl
theorem lookB_key {v : Int} {b : Bs} {t : Tm} (h : lookB v b = some t) : getM v (bsE b) = some (tmDV t) := by rw [getM_bs, h]; rfl
theorem lookB_no {v : Int} {b : Bs} (h : lookB v b = none) : getM v (bsE b) = none := by rw [getM_bs, h]; rfl
abbrev unR (u mm : Nm) (b : Bs) : List (Nm × Ob) := [(u, .cells 122 [.map mm]), (mm, .map (bsE b))]
theorem unR_ok {u mm : Nm} {b : Bs} {k : Nat} {h : Heap} (h1 : u.1 < k) (h2 : mm.1 < k) (e1 : h u = some (.cells 122 [.map mm])) (e2 : h mm = some (.map (bsE b))) : RoOK k (unR u mm b) h := ⟨fun x hx => by
  simp only [List.mem_cons, List.not_mem_nil, or_false] at hx
  rcases hx with rfl | rfl
  · exact ⟨h1, e1⟩
  · exact ⟨h2, e2⟩⟩
theorem rootF_none {n : Nat} {b : Bs} {t : Tm} (hv : t.v > 0) (h : lookB t.v b = none) : rootF (n + 1) b t = some t := by rw [rootF, if_pos hv, h]
theorem rootF_term {n : Nat} {b : Bs} {t x : Tm} (hv : t.v > 0) (h : lookB t.v b = some x) (hx : x.v = 0) : rootF (n + 1) b t = some t := by rw [rootF, if_pos hv, h]; simp [hx]
theorem rootF_var {n : Nat} {b : Bs} {t x : Tm} (hv : t.v > 0) (h : lookB t.v b = some x) (hx : x.v ≠ 0) : rootF (n + 1) b t = rootF n b x := by rw [rootF, if_pos hv, h]; simp [hx]
set_option maxHeartbeats 2000000 in
set_option maxRecDepth 20000 in
theorem root_tri (u mm : Nm) (b : Bs) (n : Nat) (t r : Tm) (hr : rootF n b t = some r) : Tri Try.prog 107 [.ptr u 0, .d (tmDV t)] (rdE (unR u mm b) (.d (tmDV r))) := by
  refine tri_enter_ro Try.func107 rfl Try.ntmps107 (by simp only [List.length_cons, List.length_nil]; omega) fun w0 h0 k hro => ?_
  obtain ⟨n1, eu⟩ := hro.get _ (List.mem_cons_self ..)
  obtain ⟨n2, em⟩ := hro.get _ (List.mem_cons_of_mem _ (List.mem_cons_self ..))
  have q1 := nmne n1
  have q2 := nmne n2
  repeat' (first | refine awp_seq_k fun K hK => ?_ | ((first | refine awp_region_k (by kernel_rfl) fun R hR => ?_ | refine awp_draw mixed (by kernel_rfl) (by kernel_rfl) fun R hR => ?_); simp only [go_sem]) | ((first | (refine hR _ ?_; clear hR R) | refine awp_skip ?_ | refine awp_exit ?_ | refine awp_ret ?_); try simp only [thenA, inBlockA, reduceIte, reduceCtorEq, Nat.reduceEqDiff, if_false, if_true]) | ((first | refine hK _ ?_ | (clear hK K; first | refine hK _ ?_ | (clear hK K; first | refine hK _ ?_ | (clear hK K; first | refine hK _ ?_ | (clear hK K; refine hK _ ?_))))); clear hK K) | refine awp_true rfl rfl ?_ | refine awp_false rfl rfl ?_ | refine awp_block ?_ | refine And.intro (by first | ((repeat' first | omega | exact trivial | rfl | assumption | (intro a e; subst e; rfl) | exact map_sz fun a => (by simp only [go_sem]) | refine And.intro ?_ ?_); done) | fail) ?_ | fail)
  refine awp_loopN (fun j σ => ∃ t' : Tm, σ.t 0 = .ptr u 0 ∧ σ.t 3 = .ptr (k, 0) 0 ∧ σ.t 4 = .ptr (k, 1) 0 ∧ σ.h (k, 0) = some (.cells 28 [iA t'.v, iA t'.f, .d (.sl (t'.us.map tmDV))]) ∧ σ.h (k, 1) = some (.cells 28 [iA 0, iA 0, .nil]) ∧ Fr k h0 σ.h ∧ k < σ.k ∧ rootF j b t' = some r) ?_ ?_
  · refine ⟨n, t, ?_⟩
    simp only [go_sem, ]
    and_intros; all_goals try (first | rfl | omega | assumption | ((repeat (first | exact Fr.rfl' _ _ | assumption | refine Fr.updk ?_ (by omega) _)); done))
  · rintro j σ ⟨t', s0, s3, s4, sh, sh', hF, hk, hv⟩
    have eu' : σ.h u = some (.cells 122 [.map mm]) := (hF u n1).trans eu
    have em' : σ.h mm = some (.map (bsE b)) := (hF mm n2).trans em
    have hne := ltne hk
    have q3 := nmne (b := σ.k) (Nat.lt_trans n1 hk)
    have q4 := nmne (b := σ.k) (Nat.lt_trans n2 hk)
    cases j with
    | zero => simp [rootF] at hv
    | succ j =>
      cases hv0 : decide (t'.v > 0) with
      | false =>
        have : rootF (j + 1) b t' = some t' := by rw [rootF, if_neg (by simpa using hv0)]
        rw [this] at hv; cases hv
        repeat' (first | refine awp_seq_k fun K hK => ?_ | ((first | refine awp_region_k (by kernel_rfl) fun R hR => ?_ | refine awp_draw mixed (by kernel_rfl) (by kernel_rfl) fun R hR => ?_); simp only [go_sem, s0, s3, s4, sh, sh', hv0, hne]) | ((first | (refine hR _ ?_; clear hR R) | refine awp_skip ?_ | refine awp_exit ?_ | refine awp_ret ?_); try simp only [thenA, inBlockA, reduceIte, reduceCtorEq, Nat.reduceEqDiff, if_false, if_true]) | ((first | refine hK _ ?_ | (clear hK K; first | refine hK _ ?_ | (clear hK K; first | refine hK _ ?_ | (clear hK K; first | refine hK _ ?_ | (clear hK K; refine hK _ ?_))))); clear hK K) | refine awp_true rfl rfl ?_ | refine awp_false rfl rfl ?_ | refine awp_block ?_ | refine And.intro (by first | ((repeat' first | omega | exact trivial | rfl | assumption | (intro a e; subst e; rfl) | exact map_sz fun a => (by simp only [go_sem]) | refine And.intro ?_ ?_); done) | fail) ?_ | fail)
        (first | refine ret_pure ?_ ?_ ?_ | refine ret_ro ?_ ?_ ?_); focus exact (by simp only [Try.results107, resOkL, resOk, Try.ntmps107, List.toList_toArray]; first | decide | (simp only [go_sem, s4, sh', hne]; done) | (simp only [go_sem, s4, sh', hne]; and_intros <;> first | omega | rfl | decide))
        rotate_left; focus exact (by repeat (first | exact Fr.rfl' _ _ | assumption | refine Fr.updk ?_ (by omega) _))
        simp only [resA, resV, Try.results107, go_sem, s4, sh', hne]
        all_goals try (first | exact Co.t2 (.dat rfl) (.dat rfl) | exact Co.t3 (.dat rfl) (.dat rfl) (.dat rfl))
        all_goals exact co_tm' rfl
      | true =>
        have hv0' : t'.v > 0 := by simpa using hv0
        cases hb : lookB t'.v b with
        | none =>
          have hg := lookB_no hb
          rw [rootF_none hv0' hb] at hv; cases hv
          repeat' (first | refine awp_seq_k fun K hK => ?_ | ((first | refine awp_region_k (by kernel_rfl) fun R hR => ?_ | refine awp_draw mixed (by kernel_rfl) (by kernel_rfl) fun R hR => ?_); simp only [go_sem, s0, s3, s4, sh, sh', hv0, hne, eu', em', q3, q4, hg, Option.isSome_none, AV.toD, Option.getD_none]) | ((first | (refine hR _ ?_; clear hR R) | refine awp_skip ?_ | refine awp_exit ?_ | refine awp_ret ?_); try simp only [thenA, inBlockA, reduceIte, reduceCtorEq, Nat.reduceEqDiff, if_false, if_true]) | ((first | refine hK _ ?_ | (clear hK K; first | refine hK _ ?_ | (clear hK K; first | refine hK _ ?_ | (clear hK K; first | refine hK _ ?_ | (clear hK K; refine hK _ ?_))))); clear hK K) | refine awp_true rfl rfl ?_ | refine awp_false rfl rfl ?_ | refine awp_block ?_ | refine And.intro (by first | ((repeat' first | omega | exact trivial | rfl | assumption | (intro a e; subst e; rfl) | exact map_sz fun a => (by simp only [go_sem]) | refine And.intro ?_ ?_); done) | fail) ?_ | fail)
          (first | refine ret_pure ?_ ?_ ?_ | refine ret_ro ?_ ?_ ?_); focus exact (by simp only [Try.results107, resOkL, resOk, Try.ntmps107, List.toList_toArray]; first | decide | (simp only [go_sem, s4, sh', hne]; done) | (simp only [go_sem, s4, sh', hne]; and_intros <;> first | omega | rfl | decide))
          rotate_left; focus exact (by repeat (first | exact Fr.rfl' _ _ | assumption | refine Fr.updk ?_ (by omega) _))
          simp only [resA, resV, Try.results107, go_sem, s4, sh', hne]
          all_goals try (first | exact Co.t2 (.dat rfl) (.dat rfl) | exact Co.t3 (.dat rfl) (.dat rfl) (.dat rfl))
          all_goals exact co_tm' rfl
        | some x =>
          have hg := lookB_key hb
          cases hx : (x.v == 0) with
          | true =>
            rw [rootF_term hv0' hb (by simpa using hx)] at hv; cases hv
            repeat' (first | refine awp_seq_k fun K hK => ?_ | ((first | refine awp_region_k (by kernel_rfl) fun R hR => ?_ | refine awp_draw mixed (by kernel_rfl) (by kernel_rfl) fun R hR => ?_); simp only [go_sem, s0, s3, s4, sh, sh', hv0, hne, eu', em', q3, q4, hg, hx, Option.isSome_some]) | ((first | (refine hR _ ?_; clear hR R) | refine awp_skip ?_ | refine awp_exit ?_ | refine awp_ret ?_); try simp only [thenA, inBlockA, reduceIte, reduceCtorEq, Nat.reduceEqDiff, if_false, if_true]) | ((first | refine hK _ ?_ | (clear hK K; first | refine hK _ ?_ | (clear hK K; first | refine hK _ ?_ | (clear hK K; first | refine hK _ ?_ | (clear hK K; refine hK _ ?_))))); clear hK K) | refine awp_true rfl rfl ?_ | refine awp_false rfl rfl ?_ | refine awp_block ?_ | refine And.intro (by first | ((repeat' first | omega | exact trivial | rfl | assumption | (intro a e; subst e; rfl) | exact map_sz fun a => (by simp only [go_sem]) | refine And.intro ?_ ?_); done) | fail) ?_ | fail)
            (first | refine ret_pure ?_ ?_ ?_ | refine ret_ro ?_ ?_ ?_); focus exact (by simp only [Try.results107, resOkL, resOk, Try.ntmps107, List.toList_toArray]; first | decide | (simp only [go_sem, s4, sh', hne]; done) | (simp only [go_sem, s4, sh', hne]; and_intros <;> first | omega | rfl | decide))
            rotate_left; focus exact (by repeat (first | exact Fr.rfl' _ _ | assumption | refine Fr.updk ?_ (by omega) _))
            simp only [resA, resV, Try.results107, go_sem, s4, sh', hne]
            all_goals try (first | exact Co.t2 (.dat rfl) (.dat rfl) | exact Co.t3 (.dat rfl) (.dat rfl) (.dat rfl))
            all_goals exact co_tm' rfl
          | false =>
            rw [rootF_var hv0' hb (by simpa using hx)] at hv
            repeat' (first | refine awp_seq_k fun K hK => ?_ | ((first | refine awp_region_k (by kernel_rfl) fun R hR => ?_ | refine awp_draw mixed (by kernel_rfl) (by kernel_rfl) fun R hR => ?_); simp only [go_sem, s0, s3, s4, sh, sh', hv0, hne, eu', em', q3, q4, hg, hx, Option.isSome_some]) | ((first | (refine hR _ ?_; clear hR R) | refine awp_skip ?_ | refine awp_exit ?_ | refine awp_ret ?_); try simp only [thenA, inBlockA, reduceIte, reduceCtorEq, Nat.reduceEqDiff, if_false, if_true]) | ((first | refine hK _ ?_ | (clear hK K; first | refine hK _ ?_ | (clear hK K; first | refine hK _ ?_ | (clear hK K; first | refine hK _ ?_ | (clear hK K; refine hK _ ?_))))); clear hK K) | refine awp_true rfl rfl ?_ | refine awp_false rfl rfl ?_ | refine awp_block ?_ | refine And.intro (by first | ((repeat' first | omega | exact trivial | rfl | assumption | (intro a e; subst e; rfl) | exact map_sz fun a => (by simp only [go_sem]) | refine And.intro ?_ ?_); done) | fail) ?_ | fail)
            refine ⟨j, Nat.lt_succ_self j, x, ?_⟩
            simp only [go_sem, s0, s3, s4, sh, sh', hne]
            and_intros; all_goals try (first | rfl | omega | assumption | ((repeat (first | exact Fr.rfl' _ _ | assumption | refine Fr.updk ?_ (by omega) _)); done))
end Go.Proofs.Ytmeekpinkfpnhab
namespace Go.Proofs.Ytmeekpinkfpnhab
open Go.RowKit
theorem size_us {p u : Tm} (h : u ∈ p.us) : u.size ≤ p.size := by
  obtain ⟨i, hi, rfl⟩ := List.getElem_of_mem h
  exact Nat.le_of_lt (Tm.size_at hi)
theorem meet_tri : ∀ (p : Tm), p.size ≤ 4000000 → MeetSpec p := by
  refine Tm.ind fun p ih hp => ?_
  have := p.len_lt
  exact meet_step p (by omega) fun u hu => ih u hu (by have := size_us hu; omega)
theorem agM {mm : Nm} {b : Bs} (h : Heap) (e : h mm = some (.map (bsE b))) : Ag (mm.1 + 1) [mm] (mtO b) h := ⟨fun n hn => by
  simp only [List.mem_cons, List.not_mem_nil, or_false] at hn; subst hn; exact ⟨Nat.lt_succ_self _, e⟩⟩
theorem roM {mm : Nm} {b : Bs} (h : Heap) (e : h mm = some (.map (bsE b))) : RoOK (mm.1 + 1) [(mm, .map (bsE b))] h := ⟨fun n hn => by
  simp only [List.mem_cons, List.not_mem_nil, or_false] at hn; subst hn; exact ⟨Nat.lt_succ_self _, e⟩⟩
end Go.Proofs.Ytmeekpinkfpnhab
namespace Go.Proofs.Ytmeekpinkfpnhab
open Go.RowKit
def idxO {S : Type} (step : Tm → S → Option (Bool × S)) : List Tm → Int → S → Option (Int × S)
  | [], _, s => some (-1, s)
  | u :: us, i, s => match step u s with
    | none => none
    | some (true, s') => some (i, s')
    | some (false, s') => idxO step us (i + 1) s'
theorem idxO_any {S : Type} (step : Tm → S → Option (Bool × S)) : ∀ (us : List Tm) (i : Int) (s : S), 0 ≤ i → anyO step us s = (idxO step us i s).map fun r => (decide (r.1 ≥ 0), r.2)
  | [], i, s, _ => rfl
  | u :: us, i, s, h => by
    rw [anyO, idxO]
    cases step u s with
    | none => rfl
    | some r =>
      obtain ⟨b, s'⟩ := r
      cases b with
      | true => simp [h]
      | false => exact idxO_any step us (i + 1) s' (by omega)
theorem idxO_at {S : Type} {step : Tm → S → Option (Bool × S)} {us : List Tm} {i : Nat} (hi : i < us.length) {j : Int} {s : S} : idxO step (us.drop i) j s = match step us[i] s with
    | none => none
    | some (true, s') => some (j, s')
    | some (false, s') => idxO step (us.drop (i + 1)) (j + 1) s' := by rw [List.drop_eq_getElem_cons hi, idxO]
theorem eqO_at {S : Type} {step : Tm → Tm → S → Option (Bool × S)} {xs ys : List Tm} {i : Nat} (hi : i < xs.length) (hi' : i < ys.length) {s : S} : eqO step (xs.drop i) (ys.drop i) s = match step xs[i] ys[i] s with
    | none => none
    | some (true, s') => eqO step (xs.drop (i + 1)) (ys.drop (i + 1)) s'
    | some (false, s') => some (false, s') := by
  rw [List.drop_eq_getElem_cons hi, List.drop_eq_getElem_cons hi', eqO]
  all_goals rfl
section
variable {S : Type} (O : S → Nm → Ob) (N : List Nm) (g : FuncId) (first caps : List AV) (step : Tm → S → Option (Bool × S)) (hN : ∀ s (k : Nat), (∀ n ∈ N, n.1 < k) → Cl k N (O s)) (hg : enterOk Try.prog g)
include hN hg
set_option maxHeartbeats 1000000 in
set_option maxRecDepth 20000 in
theorem indexO_tri (xs : List Tm) (hdo : ∀ x ∈ xs, ∀ s q, step x s = some q → Tri Try.prog g (first ++ [.d (tmDV x)] ++ caps) (stE N (O s) (O q.2) (bA q.1))) (s : S) (r : Int × S) (hr : idxO step xs 0 s = some r) :
    Tri Try.prog 158 [.d (.sl (xs.map tmDV)), .fn (.func g) first caps] (stE N (O s) (O r.2) (iA r.1)) := by
  refine tri_enter_st Try.func158 rfl Try.ntmps158 (by simp only [List.length_cons, List.length_nil]; omega) fun w0 h0 k hag => ?_
  refine awp_len (i := 0) (xs := xs.map tmDV) (by decide) rfl fun hl => ?_
  rw [List.length_map] at hl
  have hlt0 : ∀ n ∈ N, n.1 < k := fun n hn => (hag.get n hn).1
  repeat' (first | refine awp_seq_k fun K hK => ?_ | ((first | refine awp_region_k (by kernel_rfl) fun R hR => ?_ | refine awp_draw mixed (by kernel_rfl) (by kernel_rfl) fun R hR => ?_); simp only [go_sem]) | ((first | (refine hR _ ?_; clear hR R) | refine awp_skip ?_ | refine awp_exit ?_ | refine awp_ret ?_); try simp only [thenA, inBlockA, reduceIte, reduceCtorEq, Nat.reduceEqDiff, if_false, if_true]) | ((first | refine hK _ ?_ | (clear hK K; first | refine hK _ ?_ | (clear hK K; first | refine hK _ ?_ | (clear hK K; first | refine hK _ ?_ | (clear hK K; refine hK _ ?_))))); clear hK K) | refine awp_true rfl rfl ?_ | refine awp_false rfl rfl ?_ | refine awp_block ?_ | refine And.intro (by first | ((repeat' first | omega | exact trivial | rfl | assumption | (intro a e; subst e; rfl) | exact map_sz fun a => (by simp only [go_sem]) | refine And.intro ?_ ?_); done) | fail) ?_ | fail)
  refine awp_loop (fun σ => ∃ (i : Nat) (si : S), σ.t 0 = .d (.sl (xs.map tmDV)) ∧ σ.t 1 = .fn (.func g) first caps ∧ σ.t 7 = iA xs.length ∧ σ.t 8 = iA i ∧ Ag k N (O si) σ.h ∧ FrN k N h0 σ.h ∧ k < σ.k ∧ i ≤ xs.length ∧ idxO step (xs.drop i) i si = some r) (fun σ => xs.length - (intOf' (σ.t 8)).toNat) ?_ ?_
  · refine ⟨0, s, ?_⟩
    simp only [go_sem, List.drop_zero]
    and_intros; all_goals try (first | rfl | omega | assumption | ((repeat (first | exact Fr.rfl' _ _ | assumption | refine Fr.updk ?_ (by omega) _)); done))
    all_goals first | exact hr | exact FrN.rfl' _ _ _ | exact hag
  · rintro σ ⟨i, si, s0, s1, s7, s8, hA, hF, hk, hi, hv⟩
    rcases Nat.lt_or_ge i xs.length with hlt | hge
    · have hz : (i : Int) < (xs.length : Int) := by omega
      have e1 : (xs.map tmDV).getD i default = tmDV xs[i] := nth_map tmDV hlt _
      have hN1 := notN hag (k' := σ.k + 1) (by omega)
      have hN2 := notN hag (k' := σ.k + 1 + 1) (by omega)
      rw [idxO_at hlt] at hv
      cases hst : step xs[i] si with
      | none => rw [hst] at hv; cases hv
      | some q =>
        have hT := hdo _ (List.getElem_mem hlt) si q hst
        rw [hst] at hv
        obtain ⟨qb, qs⟩ := q
        have hcl := hN qs k hlt0
        cases qb with
        | true =>
          cases hv
          repeat' (first | refine awp_seq_k fun K hK => ?_ | ((first | refine awp_region_k (by kernel_rfl) fun R hR => ?_ | refine awp_draw mixed (by kernel_rfl) (by kernel_rfl) fun R hR => ?_); simp only [go_sem, s0, s1, s7, s8, hz, e1, hN1, hN2, Int.toNat_natCast]) | ((first | (refine hR _ ?_; clear hR R) | refine awp_skip ?_ | refine awp_exit ?_ | refine awp_ret ?_); try simp only [thenA, inBlockA, reduceIte, reduceCtorEq, Nat.reduceEqDiff, if_false, if_true]) | ((first | refine hK _ ?_ | (clear hK K; first | refine hK _ ?_ | (clear hK K; first | refine hK _ ?_ | (clear hK K; first | refine hK _ ?_ | (clear hK K; refine hK _ ?_))))); clear hK K) | refine awp_true rfl rfl ?_ | refine awp_false rfl rfl ?_ | refine awp_block ?_ | ((first | refine CallK.vchg rfl (hg) (hT) ?_ (by assumption) (by repeat (first | exact Fr.rfl' _ _ | assumption | refine Fr.updk ?_ (by omega) _)) ?_ | refine CallD.vchg rfl (hg) (hT) ?_ (by assumption) (by repeat (first | exact Fr.rfl' _ _ | assumption | refine Fr.updk ?_ (by omega) _)) (by assumption) ?_); (focus first | ((repeat (first | exact trivial | refine ⟨(by first | exact Or.inl rfl | exact Or.inr rfl), ?_⟩)); done) | (simp only [coL, AV.dat, true_or, or_true, AV.d.injEq, go_sem]; done)); simp only [go_sem, s0, s1, s7, s8, hz, e1, hN1, hN2, Int.toNat_natCast]) | refine And.intro (by first | ((repeat' first | omega | exact trivial | rfl | assumption | (intro a e; subst e; rfl) | exact map_sz fun a => (by simp only [go_sem]) | refine And.intro ?_ ?_); done) | fail) ?_ | fail)
          refine ret_st (by simp only [Try.results158, resOkL, resOk, Try.ntmps158, List.toList_toArray]; first | decide | (simp only [go_sem]; done) | (simp only [go_sem]; and_intros <;> first | omega | rfl | decide)) ?_ (by repeat (first | assumption | exact Ag.stN (by assumption) _ _ | refine Ag.updk ?_ (by omega) _)) (by repeat (first | exact FrN.rfl' _ _ _ | assumption | refine FrN.updk ?_ (by omega) _ | refine FrN.stH ?_ _)) (by assumption)
          simp only [resA, resV, Try.results158, go_sem]
          all_goals try (first | exact .dat rfl | exact Co.t2 (.dat rfl) (.dat rfl) | exact Co.t3 (.dat rfl) (.dat rfl) (.dat rfl))
        | false =>
          have hv2 : idxO step (xs.drop (i + 1)) ((i + 1 : Nat) : Int) qs = some r := by
            have e : ((i + 1 : Nat) : Int) = (i : Int) + 1 := by omega
            rw [e]; exact hv
          clear hv
          repeat' (first | refine awp_seq_k fun K hK => ?_ | ((first | refine awp_region_k (by kernel_rfl) fun R hR => ?_ | refine awp_draw mixed (by kernel_rfl) (by kernel_rfl) fun R hR => ?_); simp only [go_sem, s0, s1, s7, s8, hz, e1, hN1, hN2, Int.toNat_natCast]) | ((first | (refine hR _ ?_; clear hR R) | refine awp_skip ?_ | refine awp_exit ?_ | refine awp_ret ?_); try simp only [thenA, inBlockA, reduceIte, reduceCtorEq, Nat.reduceEqDiff, if_false, if_true]) | ((first | refine hK _ ?_ | (clear hK K; first | refine hK _ ?_ | (clear hK K; first | refine hK _ ?_ | (clear hK K; first | refine hK _ ?_ | (clear hK K; refine hK _ ?_))))); clear hK K) | refine awp_true rfl rfl ?_ | refine awp_false rfl rfl ?_ | refine awp_block ?_ | ((first | refine CallK.vchg rfl (hg) (hT) ?_ (by assumption) (by repeat (first | exact Fr.rfl' _ _ | assumption | refine Fr.updk ?_ (by omega) _)) ?_ | refine CallD.vchg rfl (hg) (hT) ?_ (by assumption) (by repeat (first | exact Fr.rfl' _ _ | assumption | refine Fr.updk ?_ (by omega) _)) (by assumption) ?_); (focus first | ((repeat (first | exact trivial | refine ⟨(by first | exact Or.inl rfl | exact Or.inr rfl), ?_⟩)); done) | (simp only [coL, AV.dat, true_or, or_true, AV.d.injEq, go_sem]; done)); simp only [go_sem, s0, s1, s7, s8, hz, e1, hN1, hN2, Int.toNat_natCast]) | refine And.intro (by first | ((repeat' first | omega | exact trivial | rfl | assumption | (intro a e; subst e; rfl) | exact map_sz fun a => (by simp only [go_sem]) | refine And.intro ?_ ?_); done) | fail) ?_ | fail)
          refine ⟨⟨i + 1, qs, ?_⟩, ?_⟩
          · simp only [go_sem, s0, s1, s7, s8]
            and_intros; all_goals try (first | rfl | omega | assumption | ((repeat (first | exact Fr.rfl' _ _ | assumption | refine Fr.updk ?_ (by omega) _)); done))
            · exact (by repeat (first | assumption | exact Ag.stN (by assumption) _ _ | refine Ag.updk ?_ (by omega) _))
            · exact (by repeat (first | exact FrN.rfl' _ _ _ | assumption | refine FrN.updk ?_ (by omega) _ | refine FrN.stH ?_ _))
          · simp only [go_sem, s8]; omega
    · have hz : ¬ ((i : Int) < (xs.length : Int)) := by omega
      rw [List.drop_eq_nil_of_le hge, idxO] at hv
      cases hv
      have hcl := hN si k hlt0
      repeat' (first | refine awp_seq_k fun K hK => ?_ | ((first | refine awp_region_k (by kernel_rfl) fun R hR => ?_ | refine awp_draw mixed (by kernel_rfl) (by kernel_rfl) fun R hR => ?_); simp only [go_sem, s0, s1, s7, s8, hz]) | ((first | (refine hR _ ?_; clear hR R) | refine awp_skip ?_ | refine awp_exit ?_ | refine awp_ret ?_); try simp only [thenA, inBlockA, reduceIte, reduceCtorEq, Nat.reduceEqDiff, if_false, if_true]) | ((first | refine hK _ ?_ | (clear hK K; first | refine hK _ ?_ | (clear hK K; first | refine hK _ ?_ | (clear hK K; first | refine hK _ ?_ | (clear hK K; refine hK _ ?_))))); clear hK K) | refine awp_true rfl rfl ?_ | refine awp_false rfl rfl ?_ | refine awp_block ?_ | refine And.intro (by first | ((repeat' first | omega | exact trivial | rfl | assumption | (intro a e; subst e; rfl) | exact map_sz fun a => (by simp only [go_sem]) | refine And.intro ?_ ?_); done) | fail) ?_ | fail)
      refine ret_st (by simp only [Try.results158, resOkL, resOk, Try.ntmps158, List.toList_toArray]; first | decide | (simp only [go_sem]; done) | (simp only [go_sem]; and_intros <;> first | omega | rfl | decide)) ?_ (by repeat (first | assumption | exact Ag.stN (by assumption) _ _ | refine Ag.updk ?_ (by omega) _)) (by repeat (first | exact FrN.rfl' _ _ _ | assumption | refine FrN.updk ?_ (by omega) _ | refine FrN.stH ?_ _)) (by assumption)
      simp only [resA, resV, Try.results158, go_sem]
      all_goals try (first | exact .dat rfl | exact Co.t2 (.dat rfl) (.dat rfl) | exact Co.t3 (.dat rfl) (.dat rfl) (.dat rfl))
set_option maxRecDepth 20000 in
theorem containsO_tri (xs : List Tm) (hdo : ∀ x ∈ xs, ∀ s q, step x s = some q → Tri Try.prog g (first ++ [.d (tmDV x)] ++ caps) (stE N (O s) (O q.2) (bA q.1))) (s : S) (r : Bool × S) (hr : anyO step xs s = some r) :
    Tri Try.prog 152 [.d (.sl (xs.map tmDV)), .fn (.func g) first caps] (stE N (O s) (O r.2) (bA r.1)) := by
  rw [idxO_any step xs 0 s (by omega)] at hr
  obtain ⟨q, hq, rfl⟩ := Option.map_eq_some_iff.1 hr
  have hT := indexO_tri O N g first caps step hN hg xs hdo s q hq
  refine tri_enter_st Try.func152 rfl Try.ntmps152 (by simp only [List.length_cons, List.length_nil]; omega) fun w0 h0 k hag => ?_
  have hlt0 : ∀ n ∈ N, n.1 < k := fun n hn => (hag.get n hn).1
  have hcl := hN q.2 k hlt0
  repeat' (first | refine awp_seq_k fun K hK => ?_ | ((first | refine awp_region_k (by kernel_rfl) fun R hR => ?_ | refine awp_draw mixed (by kernel_rfl) (by kernel_rfl) fun R hR => ?_); simp only [go_sem]) | ((first | (refine hR _ ?_; clear hR R) | refine awp_skip ?_ | refine awp_exit ?_ | refine awp_ret ?_); try simp only [thenA, inBlockA, reduceIte, reduceCtorEq, Nat.reduceEqDiff, if_false, if_true]) | ((first | refine hK _ ?_ | (clear hK K; first | refine hK _ ?_ | (clear hK K; first | refine hK _ ?_ | (clear hK K; first | refine hK _ ?_ | (clear hK K; refine hK _ ?_))))); clear hK K) | refine awp_true rfl rfl ?_ | refine awp_false rfl rfl ?_ | refine awp_block ?_ | ((first | refine CallK.chg (enter158) (hT) ?_ (by assumption) (by repeat (first | exact Fr.rfl' _ _ | assumption | refine Fr.updk ?_ (by omega) _)) ?_ | refine CallD.chg (enter158) (hT) ?_ (by assumption) (by repeat (first | exact Fr.rfl' _ _ | assumption | refine Fr.updk ?_ (by omega) _)) (by assumption) ?_); (focus first | ((repeat (first | exact trivial | refine ⟨(by first | exact Or.inl rfl | exact Or.inr rfl), ?_⟩)); done) | (simp only [coL, AV.dat, true_or, or_true, AV.d.injEq, go_sem]; done)); simp only [go_sem]) | refine And.intro (by first | ((repeat' first | omega | exact trivial | rfl | assumption | (intro a e; subst e; rfl) | exact map_sz fun a => (by simp only [go_sem]) | refine And.intro ?_ ?_); done) | fail) ?_ | fail)
  refine ret_st (by simp only [Try.results152, resOkL, resOk, Try.ntmps152, List.toList_toArray]; first | decide | (simp only [go_sem]; done) | (simp only [go_sem]; and_intros <;> first | omega | rfl | decide)) ?_ (by repeat (first | assumption | exact Ag.stN (by assumption) _ _ | refine Ag.updk ?_ (by omega) _)) (by repeat (first | exact FrN.rfl' _ _ _ | assumption | refine FrN.updk ?_ (by omega) _ | refine FrN.stH ?_ _)) (by assumption)
  simp only [resA, resV, Try.results152, go_sem]
  all_goals try (first | exact .dat rfl | exact Co.t2 (.dat rfl) (.dat rfl) | exact Co.t3 (.dat rfl) (.dat rfl) (.dat rfl))
end
section
variable {S : Type} (O : S → Nm → Ob) (N : List Nm) (g : FuncId) (first caps : List AV) (step : Tm → Tm → S → Option (Bool × S)) (hN : ∀ s (k : Nat), (∀ n ∈ N, n.1 < k) → Cl k N (O s)) (hg : enterOk Try.prog g)
include hN hg
set_option maxHeartbeats 1000000 in
set_option maxRecDepth 20000 in
theorem equalO_tri (xs ys : List Tm) (hdo : ∀ x ∈ xs, ∀ y ∈ ys, ∀ s q, step x y s = some q → Tri Try.prog g (first ++ [.d (tmDV x), .d (tmDV y)] ++ caps) (stE N (O s) (O q.2) (bA q.1))) (s : S) (r : Bool × S) (hr : (if xs.length = ys.length then eqO step xs ys s else some (false, s)) = some r) :
    Tri Try.prog 74 [.d (.sl (xs.map tmDV)), .d (.sl (ys.map tmDV)), .fn (.func g) first caps] (stE N (O s) (O r.2) (bA r.1)) := by
  refine tri_enter_st Try.func74 rfl Try.ntmps74 (by simp only [List.length_cons, List.length_nil]; omega) fun w0 h0 k hag => ?_
  refine awp_len (i := 0) (xs := xs.map tmDV) (by decide) rfl fun hl => ?_
  rw [List.length_map] at hl
  have hlt0 : ∀ n ∈ N, n.1 < k := fun n hn => (hag.get n hn).1
  cases h1 : ((xs.length : Int) != (ys.length : Int)) with
  | true =>
    rw [if_neg (by simp at h1; omega)] at hr
    cases hr
    have hcl := hN s k hlt0
    repeat' (first | refine awp_seq_k fun K hK => ?_ | ((first | refine awp_region_k (by kernel_rfl) fun R hR => ?_ | refine awp_draw mixed (by kernel_rfl) (by kernel_rfl) fun R hR => ?_); simp only [go_sem, h1]) | ((first | (refine hR _ ?_; clear hR R) | refine awp_skip ?_ | refine awp_exit ?_ | refine awp_ret ?_); try simp only [thenA, inBlockA, reduceIte, reduceCtorEq, Nat.reduceEqDiff, if_false, if_true]) | ((first | refine hK _ ?_ | (clear hK K; first | refine hK _ ?_ | (clear hK K; first | refine hK _ ?_ | (clear hK K; first | refine hK _ ?_ | (clear hK K; refine hK _ ?_))))); clear hK K) | refine awp_true rfl rfl ?_ | refine awp_false rfl rfl ?_ | refine awp_block ?_ | refine And.intro (by first | ((repeat' first | omega | exact trivial | rfl | assumption | (intro a e; subst e; rfl) | exact map_sz fun a => (by simp only [go_sem]) | refine And.intro ?_ ?_); done) | fail) ?_ | fail)
    refine ret_st (by simp only [Try.results74, resOkL, resOk, Try.ntmps74, List.toList_toArray]; first | decide | (simp only [go_sem]; done) | (simp only [go_sem]; and_intros <;> first | omega | rfl | decide)) ?_ (by repeat (first | assumption | exact Ag.stN (by assumption) _ _ | refine Ag.updk ?_ (by omega) _)) (by repeat (first | exact FrN.rfl' _ _ _ | assumption | refine FrN.updk ?_ (by omega) _ | refine FrN.stH ?_ _)) (by assumption)
    simp only [resA, resV, Try.results74, go_sem]
    all_goals try (first | exact .dat rfl | exact Co.t2 (.dat rfl) (.dat rfl) | exact Co.t3 (.dat rfl) (.dat rfl) (.dat rfl))
  | false =>
    have hll : xs.length = ys.length := by simp at h1; omega
    rw [if_pos hll] at hr
    repeat' (first | refine awp_seq_k fun K hK => ?_ | ((first | refine awp_region_k (by kernel_rfl) fun R hR => ?_ | refine awp_draw mixed (by kernel_rfl) (by kernel_rfl) fun R hR => ?_); simp only [go_sem, h1]) | ((first | (refine hR _ ?_; clear hR R) | refine awp_skip ?_ | refine awp_exit ?_ | refine awp_ret ?_); try simp only [thenA, inBlockA, reduceIte, reduceCtorEq, Nat.reduceEqDiff, if_false, if_true]) | ((first | refine hK _ ?_ | (clear hK K; first | refine hK _ ?_ | (clear hK K; first | refine hK _ ?_ | (clear hK K; first | refine hK _ ?_ | (clear hK K; refine hK _ ?_))))); clear hK K) | refine awp_true rfl rfl ?_ | refine awp_false rfl rfl ?_ | refine awp_block ?_ | refine And.intro (by first | ((repeat' first | omega | exact trivial | rfl | assumption | (intro a e; subst e; rfl) | exact map_sz fun a => (by simp only [go_sem]) | refine And.intro ?_ ?_); done) | fail) ?_ | fail)
    refine awp_loop (fun σ => ∃ (i : Nat) (si : S), σ.t 1 = .d (.sl (ys.map tmDV)) ∧ σ.t 2 = .fn (.func g) first caps ∧ σ.t 15 = .d (.sl (xs.map tmDV)) ∧ σ.t 16 = iA xs.length ∧ σ.t 17 = iA i ∧ Ag k N (O si) σ.h ∧ FrN k N h0 σ.h ∧ k < σ.k ∧ i ≤ xs.length ∧ eqO step (xs.drop i) (ys.drop i) si = some r) (fun σ => xs.length - (intOf' (σ.t 17)).toNat) ?_ ?_
    · refine ⟨0, s, ?_⟩
      simp only [go_sem, List.drop_zero]
      and_intros; all_goals try (first | rfl | omega | assumption | ((repeat (first | exact Fr.rfl' _ _ | assumption | refine Fr.updk ?_ (by omega) _)); done))
      all_goals first | exact hr | exact FrN.rfl' _ _ _
    · rintro σ ⟨i, si, s1, s2, s15, s16, s17, hA, hF, hk, hi, hv⟩
      rcases Nat.lt_or_ge i xs.length with hlt | hge
      · have hlt' : i < ys.length := by omega
        have hz : (i : Int) < (xs.length : Int) := by omega
        have hz' : (i : Int) < (ys.length : Int) := by omega
        have e1 : (xs.map tmDV).getD i default = tmDV xs[i] := nth_map tmDV hlt _
        have e2 : (ys.map tmDV).getD i default = tmDV ys[i] := nth_map tmDV hlt' _
        have hN1 := notN hag (k' := σ.k + 1) (by omega)
        have hN2 := notN hag (k' := σ.k + 1 + 1) (by omega)
        rw [eqO_at hlt hlt'] at hv
        cases hst : step xs[i] ys[i] si with
        | none => rw [hst] at hv; cases hv
        | some q =>
          have hT := hdo _ (List.getElem_mem hlt) _ (List.getElem_mem hlt') si q hst
          rw [hst] at hv
          obtain ⟨qb, qs⟩ := q
          have hcl := hN qs k hlt0
          cases qb with
          | true =>
            have hv2 : eqO step (xs.drop (i + 1)) (ys.drop (i + 1)) qs = some r := hv
            clear hv
            repeat' (first | refine awp_seq_k fun K hK => ?_ | ((first | refine awp_region_k (by kernel_rfl) fun R hR => ?_ | refine awp_draw mixed (by kernel_rfl) (by kernel_rfl) fun R hR => ?_); simp only [go_sem, s1, s2, s15, s16, s17, hz, hz', e1, e2, hN1, hN2, Int.toNat_natCast]) | ((first | (refine hR _ ?_; clear hR R) | refine awp_skip ?_ | refine awp_exit ?_ | refine awp_ret ?_); try simp only [thenA, inBlockA, reduceIte, reduceCtorEq, Nat.reduceEqDiff, if_false, if_true]) | ((first | refine hK _ ?_ | (clear hK K; first | refine hK _ ?_ | (clear hK K; first | refine hK _ ?_ | (clear hK K; first | refine hK _ ?_ | (clear hK K; refine hK _ ?_))))); clear hK K) | refine awp_true rfl rfl ?_ | refine awp_false rfl rfl ?_ | refine awp_block ?_ | ((first | refine CallK.vchg rfl (hg) (hT) ?_ (by assumption) (by repeat (first | exact Fr.rfl' _ _ | assumption | refine Fr.updk ?_ (by omega) _)) ?_ | refine CallD.vchg rfl (hg) (hT) ?_ (by assumption) (by repeat (first | exact Fr.rfl' _ _ | assumption | refine Fr.updk ?_ (by omega) _)) (by assumption) ?_); (focus first | ((repeat (first | exact trivial | refine ⟨(by first | exact Or.inl rfl | exact Or.inr rfl), ?_⟩)); done) | (simp only [coL, AV.dat, true_or, or_true, AV.d.injEq, go_sem]; done)); simp only [go_sem, s1, s2, s15, s16, s17, hz, hz', e1, e2, hN1, hN2, Int.toNat_natCast]) | refine And.intro (by first | ((repeat' first | omega | exact trivial | rfl | assumption | (intro a e; subst e; rfl) | exact map_sz fun a => (by simp only [go_sem]) | refine And.intro ?_ ?_); done) | fail) ?_ | fail)
            refine ⟨⟨i + 1, qs, ?_⟩, ?_⟩
            · simp only [go_sem, s1, s2, s15, s16, s17]
              and_intros; all_goals try (first | rfl | omega | assumption | ((repeat (first | exact Fr.rfl' _ _ | assumption | refine Fr.updk ?_ (by omega) _)); done))
              · exact (by repeat (first | assumption | exact Ag.stN (by assumption) _ _ | refine Ag.updk ?_ (by omega) _))
              · exact (by repeat (first | exact FrN.rfl' _ _ _ | assumption | refine FrN.updk ?_ (by omega) _ | refine FrN.stH ?_ _))
            · simp only [go_sem, s17]; omega
          | false =>
            cases hv
            repeat' (first | refine awp_seq_k fun K hK => ?_ | ((first | refine awp_region_k (by kernel_rfl) fun R hR => ?_ | refine awp_draw mixed (by kernel_rfl) (by kernel_rfl) fun R hR => ?_); simp only [go_sem, s1, s2, s15, s16, s17, hz, hz', e1, e2, hN1, hN2, Int.toNat_natCast]) | ((first | (refine hR _ ?_; clear hR R) | refine awp_skip ?_ | refine awp_exit ?_ | refine awp_ret ?_); try simp only [thenA, inBlockA, reduceIte, reduceCtorEq, Nat.reduceEqDiff, if_false, if_true]) | ((first | refine hK _ ?_ | (clear hK K; first | refine hK _ ?_ | (clear hK K; first | refine hK _ ?_ | (clear hK K; first | refine hK _ ?_ | (clear hK K; refine hK _ ?_))))); clear hK K) | refine awp_true rfl rfl ?_ | refine awp_false rfl rfl ?_ | refine awp_block ?_ | ((first | refine CallK.vchg rfl (hg) (hT) ?_ (by assumption) (by repeat (first | exact Fr.rfl' _ _ | assumption | refine Fr.updk ?_ (by omega) _)) ?_ | refine CallD.vchg rfl (hg) (hT) ?_ (by assumption) (by repeat (first | exact Fr.rfl' _ _ | assumption | refine Fr.updk ?_ (by omega) _)) (by assumption) ?_); (focus first | ((repeat (first | exact trivial | refine ⟨(by first | exact Or.inl rfl | exact Or.inr rfl), ?_⟩)); done) | (simp only [coL, AV.dat, true_or, or_true, AV.d.injEq, go_sem]; done)); simp only [go_sem, s1, s2, s15, s16, s17, hz, hz', e1, e2, hN1, hN2, Int.toNat_natCast]) | refine And.intro (by first | ((repeat' first | omega | exact trivial | rfl | assumption | (intro a e; subst e; rfl) | exact map_sz fun a => (by simp only [go_sem]) | refine And.intro ?_ ?_); done) | fail) ?_ | fail)
            refine ret_st (by simp only [Try.results74, resOkL, resOk, Try.ntmps74, List.toList_toArray]; first | decide | (simp only [go_sem]; done) | (simp only [go_sem]; and_intros <;> first | omega | rfl | decide)) ?_ (by repeat (first | assumption | exact Ag.stN (by assumption) _ _ | refine Ag.updk ?_ (by omega) _)) (by repeat (first | exact FrN.rfl' _ _ _ | assumption | refine FrN.updk ?_ (by omega) _ | refine FrN.stH ?_ _)) (by assumption)
            simp only [resA, resV, Try.results74, go_sem]
            all_goals try (first | exact .dat rfl | exact Co.t2 (.dat rfl) (.dat rfl) | exact Co.t3 (.dat rfl) (.dat rfl) (.dat rfl))
      · have hz : ¬ ((i : Int) < (xs.length : Int)) := by omega
        rw [List.drop_eq_nil_of_le hge] at hv
        have hv' : some (true, si) = some r := hv
        cases hv'
        have hcl := hN si k hlt0
        repeat' (first | refine awp_seq_k fun K hK => ?_ | ((first | refine awp_region_k (by kernel_rfl) fun R hR => ?_ | refine awp_draw mixed (by kernel_rfl) (by kernel_rfl) fun R hR => ?_); simp only [go_sem, s16, s17, hz]) | ((first | (refine hR _ ?_; clear hR R) | refine awp_skip ?_ | refine awp_exit ?_ | refine awp_ret ?_); try simp only [thenA, inBlockA, reduceIte, reduceCtorEq, Nat.reduceEqDiff, if_false, if_true]) | ((first | refine hK _ ?_ | (clear hK K; first | refine hK _ ?_ | (clear hK K; first | refine hK _ ?_ | (clear hK K; first | refine hK _ ?_ | (clear hK K; refine hK _ ?_))))); clear hK K) | refine awp_true rfl rfl ?_ | refine awp_false rfl rfl ?_ | refine awp_block ?_ | refine And.intro (by first | ((repeat' first | omega | exact trivial | rfl | assumption | (intro a e; subst e; rfl) | exact map_sz fun a => (by simp only [go_sem]) | refine And.intro ?_ ?_); done) | fail) ?_ | fail)
        refine ret_st (by simp only [Try.results74, resOkL, resOk, Try.ntmps74, List.toList_toArray]; first | decide | (simp only [go_sem]; done) | (simp only [go_sem]; and_intros <;> first | omega | rfl | decide)) ?_ (by repeat (first | assumption | exact Ag.stN (by assumption) _ _ | refine Ag.updk ?_ (by omega) _)) (by repeat (first | exact FrN.rfl' _ _ _ | assumption | refine FrN.updk ?_ (by omega) _ | refine FrN.stH ?_ _)) (by assumption)
        simp only [resA, resV, Try.results74, go_sem]
        all_goals try (first | exact .dat rfl | exact Co.t2 (.dat rfl) (.dat rfl) | exact Co.t3 (.dat rfl) (.dat rfl) (.dat rfl))
end
end Go.Proofs.Ytmeekpinkfpnhab
namespace Go.Proofs.Ytmeekpinkfpnhab
open Go.RowKit
def oL : List (Nm × Ob) → Nm → Ob
  | [], _ => .map []
  | p :: l, x => if x = p.1 then p.2 else oL l x
theorem oL_mem : ∀ {l : List (Nm × Ob)} {p : Nm × Ob}, (l.map (·.1)).Nodup → p ∈ l → oL l p.1 = p.2
  | q :: l, p, hnd, hp => by
    rw [oL]
    rw [List.map_cons, List.nodup_cons] at hnd
    rcases List.mem_cons.1 hp with rfl | hp
    · rw [if_pos rfl]
    · rw [if_neg (fun e => hnd.1 (by rw [← e]; exact List.mem_map.2 ⟨p, hp, rfl⟩))]
      exact oL_mem hnd.2 hp
theorem Ag.ofL {k : Nat} {l : List (Nm × Ob)} {h : Heap} (hnd : (l.map (·.1)).Nodup) (hh : ∀ p ∈ l, p.1.1 < k ∧ h p.1 = some p.2) : Ag k (l.map (·.1)) (oL l) h := ⟨fun n hn => by
  obtain ⟨p, hp, rfl⟩ := List.mem_map.1 hn
  rw [oL_mem hnd hp]; exact hh p hp⟩
theorem Ag.toL {k : Nat} {l : List (Nm × Ob)} {h : Heap} (hnd : (l.map (·.1)).Nodup) (ha : Ag k (l.map (·.1)) (oL l) h) : ∀ p ∈ l, p.1.1 < k ∧ h p.1 = some p.2 := fun p hp => by
  have := ha.get p.1 (List.mem_map.2 ⟨p, hp, rfl⟩)
  rw [oL_mem hnd hp] at this; exact this
theorem Cl.ofL {k : Nat} {N : List Nm} {l : List (Nm × Ob)} (hh : ∀ p ∈ l, ∀ x ∈ p.2.names, x.1 < k) : Cl k N (oL l) := fun n _ x hx => by
  induction l with
  | nil => simp [oL, Ob.names] at hx
  | cons p l ih =>
    rw [oL] at hx
    split at hx
    · exact hh p (by simp) x hx
    · exact ih (fun q hq => hh q (by simp [hq])) hx
theorem stH_in {N : List Nm} {O : Nm → Ob} {h : Heap} {x : Nm} (hx : x ∈ N) : stH N O h x = some (O x) := by rw [stH_get, if_pos hx]
theorem stH_out {N : List Nm} {O : Nm → Ob} {h : Heap} {x : Nm} (hx : x ∉ N) : stH N O h x = h x := by rw [stH_get, if_neg hx]
end Go.Proofs.Ytmeekpinkfpnhab
