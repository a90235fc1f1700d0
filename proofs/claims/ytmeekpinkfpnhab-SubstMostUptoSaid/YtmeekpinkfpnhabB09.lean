/- The unifier: leads, bind. The unifier: bind, one. The unifier: one. The unifier: one, of all terms. The unifier: size. The unifier: through. -/
import Derived.Test.YtmeekpinkfpnhabB08
set_option linter.unusedSimpArgs false
set_option linter.unusedSectionVars false
set_option linter.unusedVariables false
set_option linter.unnecessarySimpa false
set_option linter.all false
namespace Go.Proofs.Ytmeekpinkfpnhab
open Go.RowKit
@[go_sem] theorem mapTib : mapT Try.prog 183 = some 4 := by kernel_rfl
@[go_sem] theorem zeroDbo : zeroD Try.prog 4 = .d (.v (.bool false)) := by kernel_rfl
@[go_sem] theorem zeroObo : zeroOk Try.prog 4 = true := by kernel_rfl
abbrev metE (met : List (Int × Bool)) : List (Int × DV) := mapE' bD met
abbrev ldL (u mm mt : Nm) (b : Bs) (met : List (Int × Bool)) : List (Nm × Ob) := [(u, .cells 122 [.map mm]), (mm, .map (bsE b)), (mt, .map (metE met))]
abbrev ldL2 (bu bv bm u mm mt : Nm) (b : Bs) (v : Int) (met : List (Int × Bool)) : List (Nm × Ob) :=
  [(bu, .cells 120 [.ptr u 0]), (bv, .cells 3 [iA v]), (bm, .cells 183 [.map mt]), (u, .cells 122 [.map mm]), (mm, .map (bsE b)), (mt, .map (metE met))]
theorem ldL_cl {u mm mt : Nm} {b : Bs} {met : List (Int × Bool)} {k : Nat} (h : mm.1 < k) : Cl k [u, mm, mt] (oL (ldL u mm mt b met)) := Cl.ofL fun p hp x hx => by
  simp only [ldL, List.mem_cons, List.not_mem_nil, or_false] at hp
  rcases hp with rfl | rfl | rfl
  · simp [Ob.names, namesL, AV.names] at hx; rw [hx]; exact h
  · simp [Ob.names] at hx
  · simp [Ob.names] at hx
theorem ldL2_cl {bu bv bm u mm mt : Nm} {b : Bs} {v : Int} {met : List (Int × Bool)} {k : Nat} (h1 : u.1 < k) (h2 : mm.1 < k) (h3 : mt.1 < k) : Cl k [bu, bv, bm, u, mm, mt] (oL (ldL2 bu bv bm u mm mt b v met)) := Cl.ofL fun p hp x hx => by
  simp only [ldL2, List.mem_cons, List.not_mem_nil, or_false] at hp
  rcases hp with rfl | rfl | rfl | rfl | rfl | rfl
  · simp [Ob.names, namesL, AV.names] at hx; rw [hx]; exact h1
  · simp [Ob.names, namesL, AV.names, iA] at hx
  · simp [Ob.names, namesL, AV.names] at hx; rw [hx]; exact h3
  · simp [Ob.names, namesL, AV.names] at hx; rw [hx]; exact h2
  · simp [Ob.names] at hx
  · simp [Ob.names] at hx
def LeadsSpec (u mm mt : Nm) (b : Bs) (v : Int) (n : Nat) (x : Tm) : Prop := ∀ met q, leadsF n b v x met = some q →
  Tri Try.prog 137 [.ptr u 0, .d (tmDV x), iA v, .map mt] (stE [u, mm, mt] (oL (ldL u mm mt b met)) (oL (ldL u mm mt b q.2)) (bA q.1))
section
variable {bu bv bm u mm mt : Nm} {b : Bs} {v : Int} {met : List (Int × Bool)} {n : Nat} {x : Tm}
set_option maxHeartbeats 1000000 in
set_option maxRecDepth 20000 in
theorem leads1_tri (hnd : [bu, bv, bm, u, mm, mt].Nodup) (ih : LeadsSpec u mm mt b v n x) (q : Bool × List (Int × Bool)) (hq : leadsF n b v x met = some q) :
    Tri Try.prog 153 [.d (tmDV x), .ptr bu 0, .ptr bv 0, .ptr bm 0] (stE [bu, bv, bm, u, mm, mt] (oL (ldL2 bu bv bm u mm mt b v met)) (oL (ldL2 bu bv bm u mm mt b v q.2)) (bA q.1)) := by
  have hT := ih met q hq
  have hnd3 : [u, mm, mt].Nodup := hnd.sublist (.cons _ (.cons _ (.cons _ (.refl _))))
  refine tri_enter_st Try.func153 rfl Try.ntmps153 (by simp only [List.length_cons, List.length_nil]; omega) fun w0 h0 k hag => ?_
  have hg := Ag.toL (l := ldL2 bu bv bm u mm mt b v met) hnd hag
  have g1 := hg (bu, .cells 120 [.ptr u 0]) (by simp)
  have g2 := hg (bv, .cells 3 [iA v]) (by simp)
  have g3 := hg (bm, .cells 183 [.map mt]) (by simp)
  have g4 := hg (u, .cells 122 [.map mm]) (by simp)
  have g5 := hg (mm, .map (bsE b)) (by simp)
  have g6 := hg (mt, .map (metE met)) (by simp)
  have n1 := nmne g1.1
  have n2 := nmne g2.1
  have n3 := nmne g3.1
  have hA : Ag k [u, mm, mt] (oL (ldL u mm mt b met)) h0 := Ag.ofL (l := ldL u mm mt b met) hnd3 fun p hp => by
    simp only [ldL, List.mem_cons, List.not_mem_nil, or_false] at hp
    rcases hp with rfl | rfl | rfl
    · exact g4
    · exact g5
    · exact g6
  repeat' (first | refine awp_seq_k fun K hK => ?_ | ((first | refine awp_region_k (by kernel_rfl) fun R hR => ?_ | refine awp_draw mixed (by kernel_rfl) (by kernel_rfl) fun R hR => ?_); simp only [go_sem, g1.2, g2.2, g3.2, n1, n2, n3]) | ((first | (refine hR _ ?_; clear hR R) | refine awp_skip ?_ | refine awp_exit ?_ | refine awp_ret ?_); try simp only [thenA, inBlockA, reduceIte, reduceCtorEq, Nat.reduceEqDiff, if_false, if_true]) | ((first | refine hK _ ?_ | (clear hK K; first | refine hK _ ?_ | (clear hK K; first | refine hK _ ?_ | (clear hK K; first | refine hK _ ?_ | (clear hK K; refine hK _ ?_))))); clear hK K) | refine awp_true rfl rfl ?_ | refine awp_false rfl rfl ?_ | refine awp_block ?_ | ((first | refine CallK.chg (enter137) (hT) ?_ (by assumption) (by repeat (first | exact Fr.rfl' _ _ | assumption | refine Fr.updk ?_ (by omega) _)) ?_ | refine CallD.chg (enter137) (hT) ?_ (by assumption) (by repeat (first | exact Fr.rfl' _ _ | assumption | refine Fr.updk ?_ (by omega) _)) (by assumption) ?_); (focus first | ((repeat (first | exact trivial | refine ⟨(by first | exact Or.inl rfl | exact Or.inr rfl), ?_⟩)); done) | (simp only [coL, AV.dat, true_or, or_true, AV.d.injEq, go_sem]; done)); simp only [go_sem, g1.2, g2.2, g3.2, n1, n2, n3]) | refine And.intro (by first | ((repeat' first | omega | exact trivial | rfl | assumption | (intro a e; subst e; rfl) | exact map_sz fun a => (by simp only [go_sem]) | refine And.intro ?_ ?_); done) | fail) ?_ | fail)
  refine ret_st (by simp only [Try.results153, resOkL, resOk, Try.ntmps153, List.toList_toArray]; first | decide | (simp only [go_sem]; done) | (simp only [go_sem]; and_intros <;> first | omega | rfl | decide)) (by simp only [resA, resV, Try.results153, go_sem]; first | exact .dat rfl | exact Co.t2 (.dat rfl) (.dat rfl) | exact Co.t3 (.dat rfl) (.dat rfl) (.dat rfl)) ?_ ?_ ?_
  · refine Ag.ofL (l := ldL2 bu bv bm u mm mt b v q.2) hnd fun p hp => ?_
    have hd := hnd
    simp only [List.nodup_cons, List.mem_cons, not_or, List.not_mem_nil, or_false] at hd
    simp only [ldL2, List.mem_cons, List.not_mem_nil, or_false] at hp
    rcases hp with rfl | rfl | rfl | rfl | rfl | rfl
    · exact ⟨g1.1, by simp [stH_get, upd_get, hd, n1, g1.2]⟩
    · exact ⟨g2.1, by simp [stH_get, upd_get, hd, n2, g2.2]⟩
    · exact ⟨g3.1, by simp [stH_get, upd_get, hd, n3, g3.2]⟩
    · exact ⟨g4.1, by dsimp only; rw [stH_in (by simp)]; simp [oL]⟩
    · exact ⟨g5.1, by dsimp only; rw [stH_in (by simp)]; simp [oL, hd, Ne.symm hd.2.2.2.1.1]⟩
    · exact ⟨g6.1, by dsimp only; rw [stH_in (by simp)]; simp [oL, hd, Ne.symm hd.2.2.2.1.2, Ne.symm hd.2.2.2.2.1]⟩
  · intro y hy hyn
    have hy3 : y ∉ [u, mm, mt] := fun h => hyn (by simp at h ⊢; rcases h with h | h | h <;> simp [h])
    show stH _ _ _ y = _
    rw [stH_get, if_neg hy3]
    exact ((by repeat (first | exact FrN.rfl' _ _ _ | assumption | refine FrN.updk ?_ (by omega) _ | refine FrN.stH ?_ _)) : FrN k [bu, bv, bm, u, mm, mt] h0 _) y hy hyn
  · exact ldL2_cl g4.1 g5.1 g6.1
end
theorem lookB_in {v : Int} {b : Bs} {u : Tm} (h : lookB v b = some u) : ∃ p ∈ b, p.2 = u := by
  induction b with
  | nil => cases h
  | cons p b ih =>
    rw [lookB] at h
    by_cases hv : v = p.1
    · rw [if_pos hv] at h; cases h; exact ⟨p, by simp, rfl⟩
    · rw [if_neg hv] at h
      obtain ⟨q, hq, e⟩ := ih h
      exact ⟨q, by simp [hq], e⟩
theorem leads_zero {n : Nat} {b : Bs} {v : Int} {t : Tm} {met : List (Int × Bool)} (h : t.v = 0) : leadsF (n + 1) b v t met = anyO (leadsF n b v) t.us met := by rw [leadsF, if_pos h]
theorem leads_at {n : Nat} {b : Bs} {v : Int} {t : Tm} {met : List (Int × Bool)} (h : t.v ≠ 0) (h2 : t.v = v) : leadsF (n + 1) b v t met = some (true, met) := by rw [leadsF, if_neg h, if_pos h2]
theorem leads_met {n : Nat} {b : Bs} {v : Int} {t : Tm} {met : List (Int × Bool)} (h : t.v ≠ 0) (h2 : t.v ≠ v) (h3 : lookA t.v met = some true) : leadsF (n + 1) b v t met = some (false, met) := by rw [leadsF, if_neg h, if_neg h2, if_pos h3]
theorem leads_go {n : Nat} {b : Bs} {v : Int} {t : Tm} {met : List (Int × Bool)} (h : t.v ≠ 0) (h2 : t.v ≠ v) (h3 : ¬ lookA t.v met = some true) : leadsF (n + 1) b v t met = match lookB t.v b with
      | none => some (false, putA t.v true met)
      | some x => leadsF n b v x (putA t.v true met) := by
  rw [leadsF, if_neg h, if_neg h2, if_neg h3]
  all_goals rfl
set_option maxHeartbeats 4000000 in
set_option maxRecDepth 20000 in
theorem leads_tri (u mm mt : Nm) (hnd : [u, mm, mt].Nodup) (b : Bs) (v : Int) : ∀ (n : Nat) (x : Tm), LeadsSpec u mm mt b v n x := by
  intro n
  induction n with
  | zero => intro x met q hq; simp [leadsF] at hq
  | succ n ih =>
    intro x met q hq
    refine tri_enter_st Try.func137 rfl Try.ntmps137 (by simp only [List.length_cons, List.length_nil]; omega) fun w0 h0 k hag => ?_
    have hg := Ag.toL (l := ldL u mm mt b met) hnd hag
    have g1 := hg (u, .cells 122 [.map mm]) (by simp)
    have g2 := hg (mm, .map (bsE b)) (by simp)
    have g3 := hg (mt, .map (metE met)) (by simp)
    have n1 := nmne g1.1
    have n2 := nmne g2.1
    have n3 := nmne g3.1
    have hd := hnd
    simp only [List.nodup_cons, List.mem_cons, not_or, List.not_mem_nil, or_false] at hd
    have d1 : (u = mt) = False := eq_false hd.1.2
    have d2 : (mm = mt) = False := eq_false hd.2.1
    have hcl := fun met' => ldL_cl (u := u) (mm := mm) (mt := mt) (b := b) (met := met') g2.1
    cases h1 : (x.v == 0) with
    | true =>
      rw [leads_zero (by simpa using h1)] at hq
      have hnd6 : [(k, 0), (k, 2), (k, 3), u, mm, mt].Nodup := by
        have := g1.1; have := g2.1; have := g3.1
        simp only [List.nodup_cons, List.mem_cons, not_or, List.not_mem_nil, or_false, Prod.mk.injEq]
        refine ⟨⟨by simp, by simp, ?_, ?_, ?_⟩, ⟨by simp, ?_, ?_, ?_⟩, ⟨?_, ?_, ?_⟩, hd.1, hd.2.1, by simp, by simp⟩ <;> (intro e; subst e; simp at *)
      have hT := containsO_tri (fun s => oL (ldL2 (k, 0) (k, 2) (k, 3) u mm mt b v s)) [(k, 0), (k, 2), (k, 3), u, mm, mt] 153 [] [.ptr (k, 0) 0, .ptr (k, 2) 0, .ptr (k, 3) 0] (leadsF n b v) (fun s k' hk => ldL2_cl (hk u (by simp)) (hk mm (by simp)) (hk mt (by simp))) (enter153) x.us
        (fun y hy s q hq => leads1_tri hnd6 (ih y) q hq) met q hq
      have hA : ∀ h : Heap, h (k, 0) = some (.cells 120 [.ptr u 0]) → h (k, 2) = some (.cells 3 [iA v]) → h (k, 3) = some (.cells 183 [.map mt]) → h u = some (.cells 122 [.map mm]) → h mm = some (.map (bsE b)) → h mt = some (.map (metE met)) → Ag (k + 1) [(k, 0), (k, 2), (k, 3), u, mm, mt] (oL (ldL2 (k, 0) (k, 2) (k, 3) u mm mt b v met)) h := fun h e1 e2 e3 e4 e5 e6 => Ag.ofL (l := ldL2 (k, 0) (k, 2) (k, 3) u mm mt b v met) hnd6 fun p hp => by
        simp only [ldL2, List.mem_cons, List.not_mem_nil, or_false] at hp
        rcases hp with rfl | rfl | rfl | rfl | rfl | rfl
        · exact ⟨Nat.lt_succ_self k, e1⟩
        · exact ⟨Nat.lt_succ_self k, e2⟩
        · exact ⟨Nat.lt_succ_self k, e3⟩
        · exact ⟨Nat.lt_succ_of_lt g1.1, e4⟩
        · exact ⟨Nat.lt_succ_of_lt g2.1, e5⟩
        · exact ⟨Nat.lt_succ_of_lt g3.1, e6⟩
      repeat' (first | refine awp_seq_k fun K hK => ?_ | ((first | refine awp_region_k (by kernel_rfl) fun R hR => ?_ | refine awp_draw mixed (by kernel_rfl) (by kernel_rfl) fun R hR => ?_); simp only [go_sem, h1, n1, n2, n3, g1.2, g2.2, g3.2]) | ((first | (refine hR _ ?_; clear hR R) | refine awp_skip ?_ | refine awp_exit ?_ | refine awp_ret ?_); try simp only [thenA, inBlockA, reduceIte, reduceCtorEq, Nat.reduceEqDiff, if_false, if_true]) | ((first | refine hK _ ?_ | (clear hK K; first | refine hK _ ?_ | (clear hK K; first | refine hK _ ?_ | (clear hK K; first | refine hK _ ?_ | (clear hK K; refine hK _ ?_))))); clear hK K) | refine awp_true rfl rfl ?_ | refine awp_false rfl rfl ?_ | refine awp_block ?_ | ((first | refine CallK.chg (enter152) (hT) ?_ (hA _ (by simp only [go_sem, ]) (by simp only [go_sem, ]) (by simp only [go_sem, ]) (by simp only [go_sem, n1, g1.2]) (by simp only [go_sem, n2, g2.2]) (by simp only [go_sem, n3, g3.2])) (Fr.rfl' _ _) ?_ | refine CallD.chg (enter152) (hT) ?_ (hA _ (by simp only [go_sem, ]) (by simp only [go_sem, ]) (by simp only [go_sem, ]) (by simp only [go_sem, n1, g1.2]) (by simp only [go_sem, n2, g2.2]) (by simp only [go_sem, n3, g3.2])) (Fr.rfl' _ _) (by first | assumption | exact List.cons_ne_nil _ _) ?_); (focus first | ((repeat (first | exact trivial | refine ⟨(by first | exact Or.inl rfl | exact Or.inr rfl), ?_⟩)); done) | (simp only [coL, AV.dat, true_or, or_true, AV.d.injEq, go_sem]; done)); simp only [go_sem, h1, n1, n2, n3, g1.2, g2.2, g3.2]) | refine And.intro (by first | ((repeat' first | omega | exact trivial | rfl | assumption | (intro a e; subst e; rfl) | exact map_sz fun a => (by simp only [go_sem]) | refine And.intro ?_ ?_); done) | fail) ?_ | fail)
      refine ret_st (by simp only [Try.results137, resOkL, resOk, Try.ntmps137, List.toList_toArray]; first | decide | (simp only [go_sem]; done) | (simp only [go_sem]; and_intros <;> first | omega | rfl | decide)) (by simp only [resA, resV, Try.results137, go_sem]; first | exact .dat rfl | exact Co.t2 (.dat rfl) (.dat rfl) | exact Co.t3 (.dat rfl) (.dat rfl) (.dat rfl)) ?_ ?_ ?_
      · refine Ag.ofL (l := ldL u mm mt b q.2) hnd fun p hp => ?_
        have hp6 : p ∈ ldL2 (k, 0) (k, 2) (k, 3) u mm mt b v q.2 := List.mem_cons_of_mem _ (List.mem_cons_of_mem _ (List.mem_cons_of_mem _ hp))
        have hin : p.1 ∈ [(k, 0), (k, 2), (k, 3), u, mm, mt] := List.mem_map.2 ⟨p, hp6, rfl⟩
        refine ⟨?_, by dsimp only; rw [stH_in hin, oL_mem (l := ldL2 (k, 0) (k, 2) (k, 3) u mm mt b v q.2) hnd6 hp6]⟩
        simp only [ldL, List.mem_cons, List.not_mem_nil, or_false] at hp
        rcases hp with rfl | rfl | rfl
        · exact g1.1
        · exact g2.1
        · exact g3.1
      · intro y hy hyn
        have hy6 : y ∉ [(k, 0), (k, 2), (k, 3), u, mm, mt] := fun h => by
          simp only [List.mem_cons, List.not_mem_nil, or_false, not_or] at h hyn
          rcases h with rfl | rfl | rfl | rfl | rfl | rfl <;> simp at *
        show stH _ _ _ y = _
        rw [stH_get, if_neg hy6]
        exact ((by repeat (first | exact FrN.rfl' _ _ _ | assumption | refine FrN.updk ?_ (by omega) _ | refine FrN.stH ?_ _)) : FrN k [u, mm, mt] h0 _) y hy hyn
      · exact hcl q.2
    | false =>
      have h1' : x.v ≠ 0 := by simpa using h1
      cases h2 : (x.v == v) with
      | true =>
        rw [leads_at h1' (by simpa using h2)] at hq
        cases hq
        have hcl1 := hcl met
        repeat' (first | refine awp_seq_k fun K hK => ?_ | ((first | refine awp_region_k (by kernel_rfl) fun R hR => ?_ | refine awp_draw mixed (by kernel_rfl) (by kernel_rfl) fun R hR => ?_); simp only [go_sem, h1, h2, n1, n2, n3, g1.2, g2.2, g3.2]) | ((first | (refine hR _ ?_; clear hR R) | refine awp_skip ?_ | refine awp_exit ?_ | refine awp_ret ?_); try simp only [thenA, inBlockA, reduceIte, reduceCtorEq, Nat.reduceEqDiff, if_false, if_true]) | ((first | refine hK _ ?_ | (clear hK K; first | refine hK _ ?_ | (clear hK K; first | refine hK _ ?_ | (clear hK K; first | refine hK _ ?_ | (clear hK K; refine hK _ ?_))))); clear hK K) | refine awp_true rfl rfl ?_ | refine awp_false rfl rfl ?_ | refine awp_block ?_ | refine And.intro (by first | ((repeat' first | omega | exact trivial | rfl | assumption | (intro a e; subst e; rfl) | exact map_sz fun a => (by simp only [go_sem]) | refine And.intro ?_ ?_); done) | fail) ?_ | fail)
        refine ret_st (by simp only [Try.results137, resOkL, resOk, Try.ntmps137, List.toList_toArray]; first | decide | (simp only [go_sem]; done) | (simp only [go_sem]; and_intros <;> first | omega | rfl | decide)) ?_ (by repeat (first | assumption | exact Ag.stN (by assumption) _ _ | refine Ag.updk ?_ (by omega) _)) (by repeat (first | exact FrN.rfl' _ _ _ | assumption | refine FrN.updk ?_ (by omega) _ | refine FrN.stH ?_ _)) (by assumption)
        simp only [resA, resV, Try.results137, go_sem]
        all_goals try (first | exact .dat rfl | exact Co.t2 (.dat rfl) (.dat rfl) | exact Co.t3 (.dat rfl) (.dat rfl) (.dat rfl))
      | false =>
        have h2' : x.v ≠ v := by simpa using h2
        cases h3 : (lookA x.v met) == some true with
        | true =>
          have h3' : lookA x.v met = some true := by simpa using h3
          have hgm : getM x.v (metE met) = some (.v (.bool true)) := by rw [getM_A, h3']; rfl
          rw [leads_met h1' h2' h3'] at hq
          cases hq
          have hcl1 := hcl met
          repeat' (first | refine awp_seq_k fun K hK => ?_ | ((first | refine awp_region_k (by kernel_rfl) fun R hR => ?_ | refine awp_draw mixed (by kernel_rfl) (by kernel_rfl) fun R hR => ?_); simp only [go_sem, h1, h2, n1, n2, n3, g1.2, g2.2, g3.2, hgm, Option.getD_some]) | ((first | (refine hR _ ?_; clear hR R) | refine awp_skip ?_ | refine awp_exit ?_ | refine awp_ret ?_); try simp only [thenA, inBlockA, reduceIte, reduceCtorEq, Nat.reduceEqDiff, if_false, if_true]) | ((first | refine hK _ ?_ | (clear hK K; first | refine hK _ ?_ | (clear hK K; first | refine hK _ ?_ | (clear hK K; first | refine hK _ ?_ | (clear hK K; refine hK _ ?_))))); clear hK K) | refine awp_true rfl rfl ?_ | refine awp_false rfl rfl ?_ | refine awp_block ?_ | refine And.intro (by first | ((repeat' first | omega | exact trivial | rfl | assumption | (intro a e; subst e; rfl) | exact map_sz fun a => (by simp only [go_sem]) | refine And.intro ?_ ?_); done) | fail) ?_ | fail)
          refine ret_st (by simp only [Try.results137, resOkL, resOk, Try.ntmps137, List.toList_toArray]; first | decide | (simp only [go_sem]; done) | (simp only [go_sem]; and_intros <;> first | omega | rfl | decide)) ?_ (by repeat (first | assumption | exact Ag.stN (by assumption) _ _ | refine Ag.updk ?_ (by omega) _)) (by repeat (first | exact FrN.rfl' _ _ _ | assumption | refine FrN.updk ?_ (by omega) _ | refine FrN.stH ?_ _)) (by assumption)
          simp only [resA, resV, Try.results137, go_sem]
          all_goals try (first | exact .dat rfl | exact Co.t2 (.dat rfl) (.dat rfl) | exact Co.t3 (.dat rfl) (.dat rfl) (.dat rfl))
        | false =>
          have h3' : ¬ lookA x.v met = some true := by simpa using h3
          obtain ⟨dv, hdv, hdv2⟩ : ∃ dv, getM x.v (metE met) = dv ∧ dv.getD (.v (.bool false)) = .v (.bool false) := by
            refine ⟨_, rfl, ?_⟩
            rw [getM_A]
            cases hl : lookA x.v met with
            | none => rfl
            | some c => cases c with
              | true => exact absurd hl h3'
              | false => rfl
          have hpm : putM x.v (.v (.bool true)) (metE met) = metE (putA x.v true met) := putM_A bD x.v true met
          rw [leads_go h1' h2' h3'] at hq
          cases hl : lookB x.v b with
          | none =>
            rw [hl] at hq
            cases hq
            have hgb := lookB_no hl
            have hcl1 := hcl (putA x.v true met)
            repeat' (first | refine awp_seq_k fun K hK => ?_ | ((first | refine awp_region_k (by kernel_rfl) fun R hR => ?_ | refine awp_draw mixed (by kernel_rfl) (by kernel_rfl) fun R hR => ?_); simp only [go_sem, h1, h2, n1, n2, n3, g1.2, g2.2, g3.2, hdv, hdv2, hpm, hgb, AV.toD, Option.getD_none, Option.getD_some, Option.isSome_none, d1, d2]) | ((first | (refine hR _ ?_; clear hR R) | refine awp_skip ?_ | refine awp_exit ?_ | refine awp_ret ?_); try simp only [thenA, inBlockA, reduceIte, reduceCtorEq, Nat.reduceEqDiff, if_false, if_true]) | ((first | refine hK _ ?_ | (clear hK K; first | refine hK _ ?_ | (clear hK K; first | refine hK _ ?_ | (clear hK K; first | refine hK _ ?_ | (clear hK K; refine hK _ ?_))))); clear hK K) | refine awp_true rfl rfl ?_ | refine awp_false rfl rfl ?_ | refine awp_block ?_ | refine And.intro (by first | ((repeat' first | omega | exact trivial | rfl | assumption | (intro a e; subst e; rfl) | exact map_sz fun a => (by simp only [go_sem]) | refine And.intro ?_ ?_); done) | fail) ?_ | fail)
            refine ret_st (by simp only [Try.results137, resOkL, resOk, Try.ntmps137, List.toList_toArray]; first | decide | (simp only [go_sem]; done) | (simp only [go_sem]; and_intros <;> first | omega | rfl | decide)) (by simp only [resA, resV, Try.results137, go_sem]; first | exact .dat rfl | exact Co.t2 (.dat rfl) (.dat rfl) | exact Co.t3 (.dat rfl) (.dat rfl) (.dat rfl)) ?_ ?_ ?_
            · refine Ag.ofL (l := ldL u mm mt b (putA x.v true met)) hnd fun p hp => ?_
              simp only [ldL, List.mem_cons, List.not_mem_nil, or_false] at hp
              rcases hp with rfl | rfl | rfl
              · exact ⟨g1.1, by simp only [go_sem, n1, n2, n3, g1.2, d1, d2]⟩
              · exact ⟨g2.1, by simp only [go_sem, n1, n2, n3, g2.2, d1, d2]⟩
              · exact ⟨g3.1, by simp only [go_sem, n1, n2, n3, g3.2, d1, d2, hpm]⟩
            · exact (by repeat (first | exact FrN.rfl' _ _ _ | assumption | refine FrN.updk ?_ (by omega) _ | refine FrN.updn ?_ (by simp) _ | refine FrN.stH ?_ _))
            · exact hcl1
          | some y =>
            rw [hl] at hq
            have hgb := lookB_key hl
            have hT := ih y (putA x.v true met) q hq
            have hA : ∀ h : Heap, h u = some (.cells 122 [.map mm]) → h mm = some (.map (bsE b)) → h mt = some (.map (metE (putA x.v true met))) → Ag k [u, mm, mt] (oL (ldL u mm mt b (putA x.v true met))) h := fun h e1 e2 e3 => Ag.ofL (l := ldL u mm mt b (putA x.v true met)) hnd fun p hp => by
              simp only [ldL, List.mem_cons, List.not_mem_nil, or_false] at hp
              rcases hp with rfl | rfl | rfl
              · exact ⟨g1.1, e1⟩
              · exact ⟨g2.1, e2⟩
              · exact ⟨g3.1, e3⟩
            repeat' (first | refine awp_seq_k fun K hK => ?_ | ((first | refine awp_region_k (by kernel_rfl) fun R hR => ?_ | refine awp_draw mixed (by kernel_rfl) (by kernel_rfl) fun R hR => ?_); simp only [go_sem, h1, h2, n1, n2, n3, g1.2, g2.2, g3.2, hdv, hdv2, hpm, hgb, AV.toD, Option.getD_none, Option.getD_some, Option.isSome_some, d1, d2]) | ((first | (refine hR _ ?_; clear hR R) | refine awp_skip ?_ | refine awp_exit ?_ | refine awp_ret ?_); try simp only [thenA, inBlockA, reduceIte, reduceCtorEq, Nat.reduceEqDiff, if_false, if_true]) | ((first | refine hK _ ?_ | (clear hK K; first | refine hK _ ?_ | (clear hK K; first | refine hK _ ?_ | (clear hK K; first | refine hK _ ?_ | (clear hK K; refine hK _ ?_))))); clear hK K) | refine awp_true rfl rfl ?_ | refine awp_false rfl rfl ?_ | refine awp_block ?_ | ((first | refine CallK.chg (enter137) (hT) ?_ (hA _ (by simp only [go_sem, n1, n2, n3, g1.2, d1, d2]) (by simp only [go_sem, n1, n2, n3, g2.2, d1, d2]) (by simp only [go_sem, n1, n2, n3, g3.2, d1, d2, hpm])) (Fr.rfl' _ _) ?_ | refine CallD.chg (enter137) (hT) ?_ (hA _ (by simp only [go_sem, n1, n2, n3, g1.2, d1, d2]) (by simp only [go_sem, n1, n2, n3, g2.2, d1, d2]) (by simp only [go_sem, n1, n2, n3, g3.2, d1, d2, hpm])) (Fr.rfl' _ _) (by first | assumption | exact List.cons_ne_nil _ _) ?_); (focus first | ((repeat (first | exact trivial | refine ⟨(by first | exact Or.inl rfl | exact Or.inr rfl), ?_⟩)); done) | (simp only [coL, AV.dat, true_or, or_true, AV.d.injEq, go_sem]; done)); simp only [go_sem, h1, h2, n1, n2, n3, g1.2, g2.2, g3.2, hdv, hdv2, hpm, hgb, AV.toD, Option.getD_none, Option.getD_some, Option.isSome_some, d1, d2]) | refine And.intro (by first | ((repeat' first | omega | exact trivial | rfl | assumption | (intro a e; subst e; rfl) | exact map_sz fun a => (by simp only [go_sem]) | refine And.intro ?_ ?_); done) | fail) ?_ | fail)
            refine ret_st (by simp only [Try.results137, resOkL, resOk, Try.ntmps137, List.toList_toArray]; first | decide | (simp only [go_sem]; done) | (simp only [go_sem]; and_intros <;> first | omega | rfl | decide)) (by simp only [resA, resV, Try.results137, go_sem]; first | exact .dat rfl | exact Co.t2 (.dat rfl) (.dat rfl) | exact Co.t3 (.dat rfl) (.dat rfl) (.dat rfl)) ?_ ?_ ?_
            · refine Ag.ofL (l := ldL u mm mt b q.2) hnd fun p hp => ?_
              have hin : p.1 ∈ [u, mm, mt] := List.mem_map.2 ⟨p, hp, rfl⟩
              refine ⟨?_, by dsimp only; rw [stH_in hin, oL_mem (l := ldL u mm mt b q.2) hnd hp]⟩
              simp only [ldL, List.mem_cons, List.not_mem_nil, or_false] at hp
              rcases hp with rfl | rfl | rfl
              · exact g1.1
              · exact g2.1
              · exact g3.1
            · intro y hy hyn
              show stH _ _ _ y = _
              rw [stH_get, if_neg hyn]
              exact ((by repeat (first | exact FrN.rfl' _ _ _ | assumption | refine FrN.updk ?_ (by omega) _ | refine FrN.updn ?_ (by simp) _ | refine FrN.stH ?_ _)) : FrN k [u, mm, mt] h0 _) y hy hyn
            · exact hcl q.2
end Go.Proofs.Ytmeekpinkfpnhab
namespace Go.Proofs.Ytmeekpinkfpnhab
open Go.RowKit
abbrev unL (u mm : Nm) (b : Bs) : List (Nm × Ob) := [(u, .cells 122 [.map mm]), (mm, .map (bsE b))]
theorem unL_cl {u mm : Nm} {b : Bs} {k : Nat} (h : mm.1 < k) : Cl k [u, mm] (oL (unL u mm b)) := Cl.ofL fun p hp x hx => by
  simp only [unL, List.mem_cons, List.not_mem_nil, or_false] at hp
  rcases hp with rfl | rfl
  · simp [Ob.names, namesL, AV.names] at hx; rw [hx]; exact h
  · simp [Ob.names] at hx
theorem unL_ag {u mm : Nm} {b : Bs} {k : Nat} {h : Heap} (hnd : [u, mm].Nodup) (h1 : u.1 < k) (h2 : mm.1 < k) (e1 : h u = some (.cells 122 [.map mm])) (e2 : h mm = some (.map (bsE b))) : Ag k [u, mm] (oL (unL u mm b)) h := Ag.ofL (l := unL u mm b) hnd fun p hp => by
  simp only [unL, List.mem_cons, List.not_mem_nil, or_false] at hp
  rcases hp with rfl | rfl
  · exact ⟨h1, e1⟩
  · exact ⟨h2, e2⟩
theorem unL_st {u mm : Nm} {b : Bs} {h : Heap} (hnd : [u, mm].Nodup) : stH [u, mm] (oL (unL u mm b)) h u = some (.cells 122 [.map mm]) ∧ stH [u, mm] (oL (unL u mm b)) h mm = some (.map (bsE b)) :=
  ⟨by rw [stH_in (by simp), oL_mem (l := unL u mm b) (p := (u, _)) hnd (List.mem_cons_self ..)], by rw [stH_in (by simp), oL_mem (l := unL u mm b) (p := (mm, _)) hnd (List.mem_cons_of_mem _ (List.mem_cons_self ..))]⟩
set_option maxHeartbeats 1000000 in
set_option maxRecDepth 20000 in
theorem bind_tri (u mm : Nm) (hnd : [u, mm].Nodup) (b : Bs) (n : Nat) (v : Int) (t : Tm) (q : Bool × Bs) (hq : bindF n b v t = some q) : Tri Try.prog 108 [.ptr u 0, iA v, .d (tmDV t)] (stE [u, mm] (oL (unL u mm b)) (oL (unL u mm q.2)) (bA q.1)) := by
  unfold bindF at hq
  obtain ⟨r, hr, rfl⟩ := Option.map_eq_some_iff.1 hq
  refine tri_enter_st Try.func108 rfl Try.ntmps108 (by simp only [List.length_cons, List.length_nil]; omega) fun w0 h0 k hag => ?_
  have hg := Ag.toL (l := unL u mm b) hnd hag
  have g1 := hg (u, .cells 122 [.map mm]) (by simp)
  have g2 := hg (mm, .map (bsE b)) (by simp)
  have n1 := nmne g1.1
  have n2 := nmne g2.1
  have hd := hnd
  simp only [List.nodup_cons, List.mem_cons, not_or, List.not_mem_nil, or_false] at hd
  have d1 : (u = mm) = False := eq_false hd.1
  have hnd3 : [u, mm, (k + 1 + 1, 3)].Nodup := by
    have := g1.1; have := g2.1
    simp only [List.nodup_cons, List.mem_cons, not_or, List.not_mem_nil, or_false]
    refine ⟨⟨hd.1, ?_⟩, ?_, by simp, by simp⟩ <;> (intro e; subst e; first | (simp at *; done) | (simp at *; omega))
  have hpm : putM v (tmDV t) (bsE b) = bsE (putA v t b) := putM_A tmDV v t b
  have hT := leads_tri u mm (k + 1 + 1, 3) hnd3 (putA v t b) v n t [] r hr
  have hA : ∀ h : Heap, h u = some (.cells 122 [.map mm]) → h mm = some (.map (bsE (putA v t b))) → h (k + 1 + 1, 3) = some (.map []) → Ag (k + 1 + 1 + 1) [u, mm, (k + 1 + 1, 3)] (oL (ldL u mm (k + 1 + 1, 3) (putA v t b) [])) h := fun h e1 e2 e3 => Ag.ofL (l := ldL u mm (k + 1 + 1, 3) (putA v t b) []) hnd3 fun p hp => by
    have := g1.1; have := g2.1
    simp only [ldL, List.mem_cons, List.not_mem_nil, or_false] at hp
    rcases hp with rfl | rfl | rfl
    · exact ⟨by simp only at *; omega, e1⟩
    · exact ⟨by simp only at *; omega, e2⟩
    · exact ⟨by simp only; omega, e3⟩
  repeat' (first | refine awp_seq_k fun K hK => ?_ | ((first | refine awp_region_k (by kernel_rfl) fun R hR => ?_ | refine awp_draw mixed (by kernel_rfl) (by kernel_rfl) fun R hR => ?_); simp only [go_sem, n1, n2, g1.2, g2.2, d1, hpm, AV.toD, Option.getD_some]) | ((first | (refine hR _ ?_; clear hR R) | refine awp_skip ?_ | refine awp_exit ?_ | refine awp_ret ?_); try simp only [thenA, inBlockA, reduceIte, reduceCtorEq, Nat.reduceEqDiff, if_false, if_true]) | ((first | refine hK _ ?_ | (clear hK K; first | refine hK _ ?_ | (clear hK K; first | refine hK _ ?_ | (clear hK K; first | refine hK _ ?_ | (clear hK K; refine hK _ ?_))))); clear hK K) | refine awp_true rfl rfl ?_ | refine awp_false rfl rfl ?_ | refine awp_block ?_ | ((first | refine CallK.chg (enter137) (hT) ?_ (hA _ (by simp only [go_sem, n1, n2, g1.2, d1]) (by simp only [go_sem, n1, n2, g2.2, d1, hpm]) (by simp only [go_sem, ])) (Fr.rfl' _ _) ?_ | refine CallD.chg (enter137) (hT) ?_ (hA _ (by simp only [go_sem, n1, n2, g1.2, d1]) (by simp only [go_sem, n1, n2, g2.2, d1, hpm]) (by simp only [go_sem, ])) (Fr.rfl' _ _) (by first | assumption | exact List.cons_ne_nil _ _) ?_); (focus first | ((repeat (first | exact trivial | refine ⟨(by first | exact Or.inl rfl | exact Or.inr rfl), ?_⟩)); done) | (simp only [coL, AV.dat, true_or, or_true, AV.d.injEq, go_sem]; done)); simp only [go_sem, n1, n2, g1.2, g2.2, d1, hpm, AV.toD, Option.getD_some]) | refine And.intro (by first | ((repeat' first | omega | exact trivial | rfl | assumption | (intro a e; subst e; rfl) | exact map_sz fun a => (by simp only [go_sem]) | refine And.intro ?_ ?_); done) | fail) ?_ | fail)
  refine ret_st (by simp only [Try.results108, resOkL, resOk, Try.ntmps108, List.toList_toArray]; first | decide | (simp only [go_sem]; done) | (simp only [go_sem]; and_intros <;> first | omega | rfl | decide)) (by simp only [resA, resV, Try.results108, go_sem]; first | exact .dat rfl | exact Co.t2 (.dat rfl) (.dat rfl) | exact Co.t3 (.dat rfl) (.dat rfl) (.dat rfl)) ?_ ?_ ?_
  · refine unL_ag hnd g1.1 g2.1 ?_ ?_
    · show stH _ _ _ u = _
      rw [stH_in (by simp), oL_mem (l := ldL u mm (k + 1 + 1, 3) (putA v t b) r.2) (p := (u, _)) hnd3 (List.mem_cons_self ..)]
    · show stH _ _ _ mm = _
      rw [stH_in (by simp), oL_mem (l := ldL u mm (k + 1 + 1, 3) (putA v t b) r.2) (p := (mm, _)) hnd3 (List.mem_cons_of_mem _ (List.mem_cons_self ..))]
  · intro y hy hyn
    have hy3 : y ∉ [u, mm, (k + 1 + 1, 3)] := fun h => by
      simp only [List.mem_cons, List.not_mem_nil, or_false, not_or] at h hyn
      rcases h with rfl | rfl | rfl
      · exact hyn.1 rfl
      · exact hyn.2 rfl
      · simp at hy; omega
    show stH _ _ _ y = _
    rw [stH_get, if_neg hy3]
    exact ((by repeat (first | exact FrN.rfl' _ _ _ | assumption | refine FrN.updk ?_ (by omega) _ | refine FrN.updn ?_ (by simp) _ | refine FrN.stH ?_ _)) : FrN k [u, mm] h0 _) y hy hyn
  · exact unL_cl g2.1
end Go.Proofs.Ytmeekpinkfpnhab
namespace Go.Proofs.Ytmeekpinkfpnhab
open Go.RowKit
def OneSpec (u mm : Nm) (n : Nat) : Prop := ∀ (b : Bs) (x y : Tm) (q : Bool × Bs), oneF n b x y = some q → Tri Try.prog 78 [.ptr u 0, .d (tmDV x), .d (tmDV y)] (stE [u, mm] (oL (unL u mm b)) (oL (unL u mm q.2)) (bA q.1))
structure OneB (u mm : Nm) (b : Bs) (a d : Tm) (k : Nat) (h0 : Heap) (σ : St) : Prop where
  s0 : σ.t 0 = .ptr u 0
  s4 : σ.t 4 = .ptr (k, 0) 0
  s5 : σ.t 5 = .ptr (k, 1) 0
  a4 : σ.h (k, 0) = some (.cells 28 [iA a.v, iA a.f, .d (.sl (a.us.map tmDV))])
  a5 : σ.h (k, 1) = some (.cells 28 [iA d.v, iA d.f, .d (.sl (d.us.map tmDV))])
  hu : σ.h u = some (.cells 122 [.map mm])
  hm : σ.h mm = some (.map (bsE b))
  fr : Fr k h0 σ.h
  kk : k < σ.k
theorem tm1_DV (m : Int) : tmDV (.mk m 0 []) = .st [iD m, iD 0, .sl []] := by rw [tmDV_eq]; rfl
theorem one_end {u mm : Nm} {b : Bs} {k : Nat} {h0 h : Heap} (hnd : [u, mm].Nodup) (h1 : u.1 < k) (h2 : mm.1 < k) (hf : FrN k [u, mm] h0 h) : Ag k [u, mm] (oL (unL u mm b)) (stH [u, mm] (oL (unL u mm b)) h) ∧ FrN k [u, mm] h0 (stH [u, mm] (oL (unL u mm b)) h) :=
  ⟨unL_ag hnd h1 h2 (unL_st hnd).1 (unL_st hnd).2, hf.stH _⟩
section
variable {w0 : World} {u mm : Nm} {b : Bs} {a d : Tm} {k n : Nat} {h0 : Heap} {fn : Func} {q : Bool × Bs} (hfn : fn = Try.f78) (hnd : [u, mm].Nodup) (hu : u.1 < k) (hm : mm.1 < k)
include hfn hnd hu hm
set_option maxHeartbeats 4000000 in
set_option maxRecDepth 20000 in
theorem one_rest (σ : St) (B : OneB u mm b a d k h0 σ) (ih : OneSpec u mm n) (hq : oneV (oneF n) n b a d = some q)
    {N : Nat} {c : Code} (hN : (Try.f78).ntmps = N) (hc : bodyAt (Try.f78) [true,true,true,true] = some c) : awp Try.prog w0 N c (retQ Try.prog fn (stE [u, mm] (oL (unL u mm b)) (oL (unL u mm q.2)) (bA q.1)) h0 k) σ := by
  subst hfn
  obtain rfl := (Try.ntmps78).symm.trans hN; obtain rfl := Option.some.inj (show some _ = some c from hc); clear hN hc
  have hF := B.fr
  have hkk := B.kk
  have hne := ltne hkk
  have n1 := nmne (b := σ.k) (Nat.lt_trans hu hkk)
  have n2 := nmne (b := σ.k) (Nat.lt_trans hm hkk)
  have m1 := nmne hu
  have m2 := nmne hm
  have hcl := fun b' => unL_cl (u := u) (mm := mm) (b := b') hm
  have hA := fun (b' : Bs) (h : Heap) => unL_ag (b := b') (h := h) hnd hu hm
  have hd1 : ¬ u = mm := by simpa using hnd
  have d1 : (u = mm) = False := eq_false hd1
  have hFN : FrN k [u, mm] h0 σ.h := FrN.of _ hF
  have hAs := hA b σ.h B.hu B.hm
  have hcq := hcl q.2
  unfold oneV at hq
  cases hd0 : (d.v == 0) with
  | true =>
    rw [if_pos (by simpa using hd0)] at hq
    cases hla : lookB a.v b with
    | some x =>
      have hga := lookB_key hla
      rw [hla] at hq
      have hT := ih b x d q hq
      repeat' (first | refine awp_seq_k fun K hK => ?_ | ((first | refine awp_region_k (by kernel_rfl) fun R hR => ?_ | refine awp_draw mixed (by kernel_rfl) (by kernel_rfl) fun R hR => ?_); simp only [go_sem, B.s0, B.s4, B.s5, B.a4, B.a5, B.hu, B.hm, hne, n1, n2, m1, m2, hga, hd0, Option.isSome_some]) | ((first | (refine hR _ ?_; clear hR R) | refine awp_skip ?_ | refine awp_exit ?_ | refine awp_ret ?_); try simp only [thenA, inBlockA, reduceIte, reduceCtorEq, Nat.reduceEqDiff, if_false, if_true]) | ((first | refine hK _ ?_ | (clear hK K; first | refine hK _ ?_ | (clear hK K; first | refine hK _ ?_ | (clear hK K; first | refine hK _ ?_ | (clear hK K; refine hK _ ?_))))); clear hK K) | refine awp_true rfl rfl ?_ | refine awp_false rfl rfl ?_ | refine awp_block ?_ | ((first | refine CallK.chg (enter78) (hT) ?_ (hA b _ (by simp only [go_sem, B.hu, n1, m1]) (by simp only [go_sem, B.hm, n2, m2])) (Fr.rfl' _ _) ?_ | refine CallD.chg (enter78) (hT) ?_ (hA b _ (by simp only [go_sem, B.hu, n1, m1]) (by simp only [go_sem, B.hm, n2, m2])) (Fr.rfl' _ _) (by first | assumption | exact List.cons_ne_nil _ _) ?_); (focus first | ((repeat (first | exact trivial | refine ⟨(by first | exact Or.inl rfl | exact Or.inr rfl), ?_⟩)); done) | (simp only [coL, AV.dat, true_or, or_true, AV.d.injEq, go_sem]; done)); simp only [go_sem, B.s0, B.s4, B.s5, B.a4, B.a5, B.hu, B.hm, hne, n1, n2, m1, m2, hga, hd0, Option.isSome_some]) | refine And.intro (by first | ((repeat' first | omega | exact trivial | rfl | assumption | (intro a e; subst e; rfl) | exact map_sz fun a => (by simp only [go_sem]) | refine And.intro ?_ ?_); done) | fail) ?_ | fail)
      refine ret_st (by simp only [Try.results78, resOkL, resOk, Try.ntmps78, List.toList_toArray]; first | decide | (simp only [go_sem]; done) | (simp only [go_sem]; and_intros <;> first | omega | rfl | decide)) (by simp only [resA, resV, Try.results78, go_sem]; first | exact .dat rfl | exact Co.t2 (.dat rfl) (.dat rfl) | exact Co.t3 (.dat rfl) (.dat rfl) (.dat rfl)) ?_ ?_ ?_
      · exact (one_end hnd hu hm (by repeat (first | exact FrN.rfl' _ _ _ | assumption | refine FrN.updk ?_ (by omega) _ | refine FrN.stH ?_ _))).1
      · exact (one_end hnd hu hm (by repeat (first | exact FrN.rfl' _ _ _ | assumption | refine FrN.updk ?_ (by omega) _ | refine FrN.stH ?_ _))).2
      · exact hcq
    | none =>
      have hga := lookB_no hla
      rw [hla] at hq
      have hT := bind_tri u mm hnd b n a.v d q hq
      repeat' (first | refine awp_seq_k fun K hK => ?_ | ((first | refine awp_region_k (by kernel_rfl) fun R hR => ?_ | refine awp_draw mixed (by kernel_rfl) (by kernel_rfl) fun R hR => ?_); simp only [go_sem, B.s0, B.s4, B.s5, B.a4, B.a5, B.hu, B.hm, hne, n1, n2, m1, m2, hga, hd0, Option.isSome_none, AV.toD, Option.getD_none]) | ((first | (refine hR _ ?_; clear hR R) | refine awp_skip ?_ | refine awp_exit ?_ | refine awp_ret ?_); try simp only [thenA, inBlockA, reduceIte, reduceCtorEq, Nat.reduceEqDiff, if_false, if_true]) | ((first | refine hK _ ?_ | (clear hK K; first | refine hK _ ?_ | (clear hK K; first | refine hK _ ?_ | (clear hK K; first | refine hK _ ?_ | (clear hK K; refine hK _ ?_))))); clear hK K) | refine awp_true rfl rfl ?_ | refine awp_false rfl rfl ?_ | refine awp_block ?_ | ((first | refine CallK.chg (enter108) (hT) ?_ (hA b _ (by simp only [go_sem, B.hu, n1, m1]) (by simp only [go_sem, B.hm, n2, m2])) (Fr.rfl' _ _) ?_ | refine CallD.chg (enter108) (hT) ?_ (hA b _ (by simp only [go_sem, B.hu, n1, m1]) (by simp only [go_sem, B.hm, n2, m2])) (Fr.rfl' _ _) (by first | assumption | exact List.cons_ne_nil _ _) ?_); (focus first | ((repeat (first | exact trivial | refine ⟨(by first | exact Or.inl rfl | exact Or.inr rfl), ?_⟩)); done) | (simp only [coL, AV.dat, true_or, or_true, AV.d.injEq, go_sem]; done)); simp only [go_sem, B.s0, B.s4, B.s5, B.a4, B.a5, B.hu, B.hm, hne, n1, n2, m1, m2, hga, hd0, Option.isSome_none, AV.toD, Option.getD_none]) | refine And.intro (by first | ((repeat' first | omega | exact trivial | rfl | assumption | (intro a e; subst e; rfl) | exact map_sz fun a => (by simp only [go_sem]) | refine And.intro ?_ ?_); done) | fail) ?_ | fail)
      refine ret_st (by simp only [Try.results78, resOkL, resOk, Try.ntmps78, List.toList_toArray]; first | decide | (simp only [go_sem]; done) | (simp only [go_sem]; and_intros <;> first | omega | rfl | decide)) (by simp only [resA, resV, Try.results78, go_sem]; first | exact .dat rfl | exact Co.t2 (.dat rfl) (.dat rfl) | exact Co.t3 (.dat rfl) (.dat rfl) (.dat rfl)) ?_ ?_ ?_
      · exact (one_end hnd hu hm (by repeat (first | exact FrN.rfl' _ _ _ | assumption | refine FrN.updk ?_ (by omega) _ | refine FrN.stH ?_ _))).1
      · exact (one_end hnd hu hm (by repeat (first | exact FrN.rfl' _ _ _ | assumption | refine FrN.updk ?_ (by omega) _ | refine FrN.stH ?_ _))).2
      · exact hcq
  | false =>
    rw [if_neg (by simpa using hd0)] at hq
    cases had : (a.v == d.v) with
    | true =>
      rw [if_pos (by simpa using had)] at hq
      cases hq
      have hcl1 := hcl b
      have hv : a.v = d.v := by simpa using had
      cases hla : lookB a.v b with
      | some x =>
        have hga := lookB_key hla
        have hgd : getM d.v (bsE b) = some (tmDV x) := by rw [← hv]; exact hga
        repeat' (first | refine awp_seq_k fun K hK => ?_ | ((first | refine awp_region_k (by kernel_rfl) fun R hR => ?_ | refine awp_draw mixed (by kernel_rfl) (by kernel_rfl) fun R hR => ?_); simp only [go_sem, B.s0, B.s4, B.s5, B.a4, B.a5, B.hu, B.hm, hne, n1, n2, m1, m2, hga, hgd, hd0, had, Option.isSome_some]) | ((first | (refine hR _ ?_; clear hR R) | refine awp_skip ?_ | refine awp_exit ?_ | refine awp_ret ?_); try simp only [thenA, inBlockA, reduceIte, reduceCtorEq, Nat.reduceEqDiff, if_false, if_true]) | ((first | refine hK _ ?_ | (clear hK K; first | refine hK _ ?_ | (clear hK K; first | refine hK _ ?_ | (clear hK K; first | refine hK _ ?_ | (clear hK K; refine hK _ ?_))))); clear hK K) | refine awp_true rfl rfl ?_ | refine awp_false rfl rfl ?_ | refine awp_block ?_ | refine And.intro (by first | ((repeat' first | omega | exact trivial | rfl | assumption | (intro a e; subst e; rfl) | exact map_sz fun a => (by simp only [go_sem]) | refine And.intro ?_ ?_); done) | fail) ?_ | fail)
        refine ret_st (by simp only [Try.results78, resOkL, resOk, Try.ntmps78, List.toList_toArray]; first | decide | (simp only [go_sem]; done) | (simp only [go_sem]; and_intros <;> first | omega | rfl | decide)) ?_ (by repeat (first | assumption | exact Ag.stN (by assumption) _ _ | refine Ag.updk ?_ (by omega) _)) (by repeat (first | exact FrN.rfl' _ _ _ | assumption | refine FrN.updk ?_ (by omega) _ | refine FrN.stH ?_ _)) (by assumption)
        simp only [resA, resV, Try.results78, go_sem]
        all_goals try (first | exact .dat rfl | exact Co.t2 (.dat rfl) (.dat rfl) | exact Co.t3 (.dat rfl) (.dat rfl) (.dat rfl))
      | none =>
        have hga := lookB_no hla
        have hgd : getM d.v (bsE b) = none := by rw [← hv]; exact hga
        repeat' (first | refine awp_seq_k fun K hK => ?_ | ((first | refine awp_region_k (by kernel_rfl) fun R hR => ?_ | refine awp_draw mixed (by kernel_rfl) (by kernel_rfl) fun R hR => ?_); simp only [go_sem, B.s0, B.s4, B.s5, B.a4, B.a5, B.hu, B.hm, hne, n1, n2, m1, m2, hga, hgd, hd0, had, Option.isSome_none, AV.toD, Option.getD_none]) | ((first | (refine hR _ ?_; clear hR R) | refine awp_skip ?_ | refine awp_exit ?_ | refine awp_ret ?_); try simp only [thenA, inBlockA, reduceIte, reduceCtorEq, Nat.reduceEqDiff, if_false, if_true]) | ((first | refine hK _ ?_ | (clear hK K; first | refine hK _ ?_ | (clear hK K; first | refine hK _ ?_ | (clear hK K; first | refine hK _ ?_ | (clear hK K; refine hK _ ?_))))); clear hK K) | refine awp_true rfl rfl ?_ | refine awp_false rfl rfl ?_ | refine awp_block ?_ | refine And.intro (by first | ((repeat' first | omega | exact trivial | rfl | assumption | (intro a e; subst e; rfl) | exact map_sz fun a => (by simp only [go_sem]) | refine And.intro ?_ ?_); done) | fail) ?_ | fail)
        refine ret_st (by simp only [Try.results78, resOkL, resOk, Try.ntmps78, List.toList_toArray]; first | decide | (simp only [go_sem]; done) | (simp only [go_sem]; and_intros <;> first | omega | rfl | decide)) ?_ (by repeat (first | assumption | exact Ag.stN (by assumption) _ _ | refine Ag.updk ?_ (by omega) _)) (by repeat (first | exact FrN.rfl' _ _ _ | assumption | refine FrN.updk ?_ (by omega) _ | refine FrN.stH ?_ _)) (by assumption)
        simp only [resA, resV, Try.results78, go_sem]
        all_goals try (first | exact .dat rfl | exact Co.t2 (.dat rfl) (.dat rfl) | exact Co.t3 (.dat rfl) (.dat rfl) (.dat rfl))
    | false =>
      rw [if_neg (by simpa using had)] at hq
      cases hla : lookB a.v b with
      | some x =>
        have hga := lookB_key hla
        cases hld : lookB d.v b with
        | some y =>
          have hgd := lookB_key hld
          rw [hla, hld] at hq
          dsimp only at hq
          cases hbb : bindF n b d.v a with
          | none => rw [hbb] at hq; cases hq
          | some r =>
            obtain ⟨rb, b1⟩ := r
            have hT1 := bind_tri u mm hnd b n d.v a _ hbb
            rw [hbb] at hq
            cases rb with
            | false =>
              cases hq
              repeat' (first | refine awp_seq_k fun K hK => ?_ | ((first | refine awp_region_k (by kernel_rfl) fun R hR => ?_ | refine awp_draw mixed (by kernel_rfl) (by kernel_rfl) fun R hR => ?_); simp only [go_sem, B.s0, B.s4, B.s5, B.a4, B.a5, B.hu, B.hm, hne, n1, n2, m1, m2, hga, hgd, hd0, had, Option.isSome_some]) | ((first | (refine hR _ ?_; clear hR R) | refine awp_skip ?_ | refine awp_exit ?_ | refine awp_ret ?_); try simp only [thenA, inBlockA, reduceIte, reduceCtorEq, Nat.reduceEqDiff, if_false, if_true]) | ((first | refine hK _ ?_ | (clear hK K; first | refine hK _ ?_ | (clear hK K; first | refine hK _ ?_ | (clear hK K; first | refine hK _ ?_ | (clear hK K; refine hK _ ?_))))); clear hK K) | refine awp_true rfl rfl ?_ | refine awp_false rfl rfl ?_ | refine awp_block ?_ | ((first | refine CallK.chg (enter108) (hT1) ?_ (hA b _ (by simp only [go_sem, B.hu, n1, m1]) (by simp only [go_sem, B.hm, n2, m2])) (Fr.rfl' _ _) ?_ | refine CallD.chg (enter108) (hT1) ?_ (hA b _ (by simp only [go_sem, B.hu, n1, m1]) (by simp only [go_sem, B.hm, n2, m2])) (Fr.rfl' _ _) (by first | assumption | exact List.cons_ne_nil _ _) ?_); (focus first | ((repeat (first | exact trivial | refine ⟨(by first | exact Or.inl rfl | exact Or.inr rfl), ?_⟩)); done) | (simp only [coL, AV.dat, true_or, or_true, AV.d.injEq, go_sem]; done)); simp only [go_sem, B.s0, B.s4, B.s5, B.a4, B.a5, B.hu, B.hm, hne, n1, n2, m1, m2, hga, hgd, hd0, had, Option.isSome_some]) | refine And.intro (by first | ((repeat' first | omega | exact trivial | rfl | assumption | (intro a e; subst e; rfl) | exact map_sz fun a => (by simp only [go_sem]) | refine And.intro ?_ ?_); done) | fail) ?_ | fail)
              refine ret_st (by simp only [Try.results78, resOkL, resOk, Try.ntmps78, List.toList_toArray]; first | decide | (simp only [go_sem]; done) | (simp only [go_sem]; and_intros <;> first | omega | rfl | decide)) (by simp only [resA, resV, Try.results78, go_sem]; first | exact .dat rfl | exact Co.t2 (.dat rfl) (.dat rfl) | exact Co.t3 (.dat rfl) (.dat rfl) (.dat rfl)) ?_ ?_ ?_
              · exact (one_end hnd hu hm (by repeat (first | exact FrN.rfl' _ _ _ | assumption | refine FrN.updk ?_ (by omega) _ | refine FrN.stH ?_ _))).1
              · exact (one_end hnd hu hm (by repeat (first | exact FrN.rfl' _ _ _ | assumption | refine FrN.updk ?_ (by omega) _ | refine FrN.stH ?_ _))).2
              · exact hcq
            | true =>
              have hT2 := ih b1 x y q hq
              repeat' (first | refine awp_seq_k fun K hK => ?_ | ((first | refine awp_region_k (by kernel_rfl) fun R hR => ?_ | refine awp_draw mixed (by kernel_rfl) (by kernel_rfl) fun R hR => ?_); simp only [go_sem, B.s0, B.s4, B.s5, B.a4, B.a5, B.hu, B.hm, hne, n1, n2, m1, m2, hga, hgd, hd0, had, Option.isSome_some]) | ((first | (refine hR _ ?_; clear hR R) | refine awp_skip ?_ | refine awp_exit ?_ | refine awp_ret ?_); try simp only [thenA, inBlockA, reduceIte, reduceCtorEq, Nat.reduceEqDiff, if_false, if_true]) | ((first | refine hK _ ?_ | (clear hK K; first | refine hK _ ?_ | (clear hK K; first | refine hK _ ?_ | (clear hK K; first | refine hK _ ?_ | (clear hK K; refine hK _ ?_))))); clear hK K) | refine awp_true rfl rfl ?_ | refine awp_false rfl rfl ?_ | refine awp_block ?_ | ((first | refine CallK.chg (enter108) (hT1) ?_ (hA b _ (by simp only [go_sem, B.hu, n1, m1]) (by simp only [go_sem, B.hm, n2, m2])) (Fr.rfl' _ _) ?_ | refine CallD.chg (enter108) (hT1) ?_ (hA b _ (by simp only [go_sem, B.hu, n1, m1]) (by simp only [go_sem, B.hm, n2, m2])) (Fr.rfl' _ _) (by first | assumption | exact List.cons_ne_nil _ _) ?_); (focus first | ((repeat (first | exact trivial | refine ⟨(by first | exact Or.inl rfl | exact Or.inr rfl), ?_⟩)); done) | (simp only [coL, AV.dat, true_or, or_true, AV.d.injEq, go_sem]; done)); simp only [go_sem, B.s0, B.s4, B.s5, B.a4, B.a5, B.hu, B.hm, hne, n1, n2, m1, m2, hga, hgd, hd0, had, Option.isSome_some]) | ((first | refine CallK.chg (enter78) (hT2) ?_ (hA b1 _ (by exact (unL_st hnd).1) (by exact (unL_st hnd).2)) (Fr.rfl' _ _) ?_ | refine CallD.chg (enter78) (hT2) ?_ (hA b1 _ (by exact (unL_st hnd).1) (by exact (unL_st hnd).2)) (Fr.rfl' _ _) (by first | assumption | exact List.cons_ne_nil _ _) ?_); (focus first | ((repeat (first | exact trivial | refine ⟨(by first | exact Or.inl rfl | exact Or.inr rfl), ?_⟩)); done) | (simp only [coL, AV.dat, true_or, or_true, AV.d.injEq, go_sem]; done)); simp only [go_sem, B.s0, B.s4, B.s5, B.a4, B.a5, B.hu, B.hm, hne, n1, n2, m1, m2, hga, hgd, hd0, had, Option.isSome_some]) | refine And.intro (by first | ((repeat' first | omega | exact trivial | rfl | assumption | (intro a e; subst e; rfl) | exact map_sz fun a => (by simp only [go_sem]) | refine And.intro ?_ ?_); done) | fail) ?_ | fail)
              refine ret_st (by simp only [Try.results78, resOkL, resOk, Try.ntmps78, List.toList_toArray]; first | decide | (simp only [go_sem]; done) | (simp only [go_sem]; and_intros <;> first | omega | rfl | decide)) (by simp only [resA, resV, Try.results78, go_sem]; first | exact .dat rfl | exact Co.t2 (.dat rfl) (.dat rfl) | exact Co.t3 (.dat rfl) (.dat rfl) (.dat rfl)) ?_ ?_ ?_
              · exact (one_end hnd hu hm (by repeat (first | exact FrN.rfl' _ _ _ | assumption | refine FrN.updk ?_ (by omega) _ | refine FrN.stH ?_ _))).1
              · exact (one_end hnd hu hm (by repeat (first | exact FrN.rfl' _ _ _ | assumption | refine FrN.updk ?_ (by omega) _ | refine FrN.stH ?_ _))).2
              · exact hcq
        | none =>
          have hgd := lookB_no hld
          rw [hla, hld] at hq
          have hT := bind_tri u mm hnd b n d.v a q hq
          repeat' (first | refine awp_seq_k fun K hK => ?_ | ((first | refine awp_region_k (by kernel_rfl) fun R hR => ?_ | refine awp_draw mixed (by kernel_rfl) (by kernel_rfl) fun R hR => ?_); simp only [go_sem, B.s0, B.s4, B.s5, B.a4, B.a5, B.hu, B.hm, hne, n1, n2, m1, m2, hga, hgd, hd0, had, Option.isSome_some, Option.isSome_none, AV.toD, Option.getD_none]) | ((first | (refine hR _ ?_; clear hR R) | refine awp_skip ?_ | refine awp_exit ?_ | refine awp_ret ?_); try simp only [thenA, inBlockA, reduceIte, reduceCtorEq, Nat.reduceEqDiff, if_false, if_true]) | ((first | refine hK _ ?_ | (clear hK K; first | refine hK _ ?_ | (clear hK K; first | refine hK _ ?_ | (clear hK K; first | refine hK _ ?_ | (clear hK K; refine hK _ ?_))))); clear hK K) | refine awp_true rfl rfl ?_ | refine awp_false rfl rfl ?_ | refine awp_block ?_ | ((first | refine CallK.chg (enter108) (hT) ?_ (hA b _ (by simp only [go_sem, B.hu, n1, m1]) (by simp only [go_sem, B.hm, n2, m2])) (Fr.rfl' _ _) ?_ | refine CallD.chg (enter108) (hT) ?_ (hA b _ (by simp only [go_sem, B.hu, n1, m1]) (by simp only [go_sem, B.hm, n2, m2])) (Fr.rfl' _ _) (by first | assumption | exact List.cons_ne_nil _ _) ?_); (focus first | ((repeat (first | exact trivial | refine ⟨(by first | exact Or.inl rfl | exact Or.inr rfl), ?_⟩)); done) | (simp only [coL, AV.dat, true_or, or_true, AV.d.injEq, go_sem]; done)); simp only [go_sem, B.s0, B.s4, B.s5, B.a4, B.a5, B.hu, B.hm, hne, n1, n2, m1, m2, hga, hgd, hd0, had, Option.isSome_some, Option.isSome_none, AV.toD, Option.getD_none]) | refine And.intro (by first | ((repeat' first | omega | exact trivial | rfl | assumption | (intro a e; subst e; rfl) | exact map_sz fun a => (by simp only [go_sem]) | refine And.intro ?_ ?_); done) | fail) ?_ | fail)
          refine ret_st (by simp only [Try.results78, resOkL, resOk, Try.ntmps78, List.toList_toArray]; first | decide | (simp only [go_sem]; done) | (simp only [go_sem]; and_intros <;> first | omega | rfl | decide)) (by simp only [resA, resV, Try.results78, go_sem]; first | exact .dat rfl | exact Co.t2 (.dat rfl) (.dat rfl) | exact Co.t3 (.dat rfl) (.dat rfl) (.dat rfl)) ?_ ?_ ?_
          · exact (one_end hnd hu hm (by repeat (first | exact FrN.rfl' _ _ _ | assumption | refine FrN.updk ?_ (by omega) _ | refine FrN.stH ?_ _))).1
          · exact (one_end hnd hu hm (by repeat (first | exact FrN.rfl' _ _ _ | assumption | refine FrN.updk ?_ (by omega) _ | refine FrN.stH ?_ _))).2
          · exact hcq
      | none =>
        have hga := lookB_no hla
        cases hld : lookB d.v b with
        | some y =>
          have hgd := lookB_key hld
          rw [hla, hld] at hq
          have hT := bind_tri u mm hnd b n a.v d q hq
          repeat' (first | refine awp_seq_k fun K hK => ?_ | ((first | refine awp_region_k (by kernel_rfl) fun R hR => ?_ | refine awp_draw mixed (by kernel_rfl) (by kernel_rfl) fun R hR => ?_); simp only [go_sem, B.s0, B.s4, B.s5, B.a4, B.a5, B.hu, B.hm, hne, n1, n2, m1, m2, hga, hgd, hd0, had, Option.isSome_some, Option.isSome_none, AV.toD, Option.getD_none]) | ((first | (refine hR _ ?_; clear hR R) | refine awp_skip ?_ | refine awp_exit ?_ | refine awp_ret ?_); try simp only [thenA, inBlockA, reduceIte, reduceCtorEq, Nat.reduceEqDiff, if_false, if_true]) | ((first | refine hK _ ?_ | (clear hK K; first | refine hK _ ?_ | (clear hK K; first | refine hK _ ?_ | (clear hK K; first | refine hK _ ?_ | (clear hK K; refine hK _ ?_))))); clear hK K) | refine awp_true rfl rfl ?_ | refine awp_false rfl rfl ?_ | refine awp_block ?_ | ((first | refine CallK.chg (enter108) (hT) ?_ (hA b _ (by simp only [go_sem, B.hu, n1, m1]) (by simp only [go_sem, B.hm, n2, m2])) (Fr.rfl' _ _) ?_ | refine CallD.chg (enter108) (hT) ?_ (hA b _ (by simp only [go_sem, B.hu, n1, m1]) (by simp only [go_sem, B.hm, n2, m2])) (Fr.rfl' _ _) (by first | assumption | exact List.cons_ne_nil _ _) ?_); (focus first | ((repeat (first | exact trivial | refine ⟨(by first | exact Or.inl rfl | exact Or.inr rfl), ?_⟩)); done) | (simp only [coL, AV.dat, true_or, or_true, AV.d.injEq, go_sem]; done)); simp only [go_sem, B.s0, B.s4, B.s5, B.a4, B.a5, B.hu, B.hm, hne, n1, n2, m1, m2, hga, hgd, hd0, had, Option.isSome_some, Option.isSome_none, AV.toD, Option.getD_none]) | refine And.intro (by first | ((repeat' first | omega | exact trivial | rfl | assumption | (intro a e; subst e; rfl) | exact map_sz fun a => (by simp only [go_sem]) | refine And.intro ?_ ?_); done) | fail) ?_ | fail)
          refine ret_st (by simp only [Try.results78, resOkL, resOk, Try.ntmps78, List.toList_toArray]; first | decide | (simp only [go_sem]; done) | (simp only [go_sem]; and_intros <;> first | omega | rfl | decide)) (by simp only [resA, resV, Try.results78, go_sem]; first | exact .dat rfl | exact Co.t2 (.dat rfl) (.dat rfl) | exact Co.t3 (.dat rfl) (.dat rfl) (.dat rfl)) ?_ ?_ ?_
          · exact (one_end hnd hu hm (by repeat (first | exact FrN.rfl' _ _ _ | assumption | refine FrN.updk ?_ (by omega) _ | refine FrN.stH ?_ _))).1
          · exact (one_end hnd hu hm (by repeat (first | exact FrN.rfl' _ _ _ | assumption | refine FrN.updk ?_ (by omega) _ | refine FrN.stH ?_ _))).2
          · exact hcq
        | none =>
          have hgd := lookB_no hld
          rw [hla, hld] at hq
          have hT := bind_tri u mm hnd b n _ _ q hq
          rw [tm1_DV] at hT
          repeat' (first | refine awp_seq_k fun K hK => ?_ | ((first | refine awp_region_k (by kernel_rfl) fun R hR => ?_ | refine awp_draw mixed (by kernel_rfl) (by kernel_rfl) fun R hR => ?_); simp only [go_sem, B.s0, B.s4, B.s5, B.a4, B.a5, B.hu, B.hm, hne, n1, n2, m1, m2, hga, hgd, hd0, had, Option.isSome_none, AV.toD, Option.getD_none]) | ((first | (refine hR _ ?_; clear hR R) | refine awp_skip ?_ | refine awp_exit ?_ | refine awp_ret ?_); try simp only [thenA, inBlockA, reduceIte, reduceCtorEq, Nat.reduceEqDiff, if_false, if_true]) | ((first | refine hK _ ?_ | (clear hK K; first | refine hK _ ?_ | (clear hK K; first | refine hK _ ?_ | (clear hK K; first | refine hK _ ?_ | (clear hK K; refine hK _ ?_))))); clear hK K) | refine awp_true rfl rfl ?_ | refine awp_false rfl rfl ?_ | refine awp_block ?_ | ((first | refine CallK.chg (enter108) (hT) ?_ (hA b _ (by simp only [go_sem, B.hu, n1, m1]) (by simp only [go_sem, B.hm, n2, m2])) (Fr.rfl' _ _) ?_ | refine CallD.chg (enter108) (hT) ?_ (hA b _ (by simp only [go_sem, B.hu, n1, m1]) (by simp only [go_sem, B.hm, n2, m2])) (Fr.rfl' _ _) (by first | assumption | exact List.cons_ne_nil _ _) ?_); (focus first | ((repeat (first | exact trivial | refine ⟨(by first | exact Or.inl rfl | exact Or.inr rfl), ?_⟩)); done) | (simp only [coL, AV.dat, true_or, or_true, AV.d.injEq, go_sem]; done)); simp only [go_sem, B.s0, B.s4, B.s5, B.a4, B.a5, B.hu, B.hm, hne, n1, n2, m1, m2, hga, hgd, hd0, had, Option.isSome_none, AV.toD, Option.getD_none]) | refine And.intro (by first | ((repeat' first | omega | exact trivial | rfl | assumption | (intro a e; subst e; rfl) | exact map_sz fun a => (by simp only [go_sem]) | refine And.intro ?_ ?_); done) | fail) ?_ | fail)
          refine ret_st (by simp only [Try.results78, resOkL, resOk, Try.ntmps78, List.toList_toArray]; first | decide | (simp only [go_sem]; done) | (simp only [go_sem]; and_intros <;> first | omega | rfl | decide)) (by simp only [resA, resV, Try.results78, go_sem]; first | exact .dat rfl | exact Co.t2 (.dat rfl) (.dat rfl) | exact Co.t3 (.dat rfl) (.dat rfl) (.dat rfl)) ?_ ?_ ?_
          · exact (one_end hnd hu hm (by repeat (first | exact FrN.rfl' _ _ _ | assumption | refine FrN.updk ?_ (by omega) _ | refine FrN.stH ?_ _))).1
          · exact (one_end hnd hu hm (by repeat (first | exact FrN.rfl' _ _ _ | assumption | refine FrN.updk ?_ (by omega) _ | refine FrN.stH ?_ _))).2
          · exact hcq
end
end Go.Proofs.Ytmeekpinkfpnhab
namespace Go.Proofs.Ytmeekpinkfpnhab
open Go.RowKit
theorem one_at {n : Nat} {b : Bs} {x y : Tm} {q : Bool × Bs} (h : oneF (n + 1) b x y = some q) : ∃ a d, rootF n b x = some a ∧ rootF n b y = some d ∧ (if a.v = 0 ∧ d.v = 0 then
        if a.f = d.f then (if a.us.length = d.us.length then eqO (fun x y s => oneF n s x y) a.us d.us b else some (false, b)) else some (false, b)
      else if a.v = 0 then oneV (oneF n) n b d a else oneV (oneF n) n b a d) = some q := by
  rw [oneF] at h
  cases ha : rootF n b x with
  | none => rw [ha] at h; cases h
  | some a =>
    cases hd : rootF n b y with
    | none => rw [ha, hd] at h; cases h
    | some d => rw [ha, hd] at h; exact ⟨a, d, rfl, rfl, h⟩
set_option maxHeartbeats 4000000 in
set_option maxRecDepth 20000 in
theorem uone_tri (u mm : Nm) (hnd : [u, mm].Nodup) : ∀ n : Nat, OneSpec u mm n := by
  intro n
  induction n with
  | zero => intro b x y q h; simp [oneF] at h
  | succ n ih =>
    intro b x y q h
    obtain ⟨a, d, ha, hd, hq⟩ := one_at h
    have r1 := root_tri u mm b n x a ha
    have r2 := root_tri u mm b n y d hd
    refine tri_enter_st Try.func78 rfl Try.ntmps78 (by simp only [List.length_cons, List.length_nil]; omega) fun w0 h0 k hag => ?_
    have hg := Ag.toL (l := unL u mm b) hnd hag
    have g1 := hg (u, .cells 122 [.map mm]) (by simp)
    have g2 := hg (mm, .map (bsE b)) (by simp)
    have n1 := nmne g1.1
    have n2 := nmne g2.1
    have hcq := unL_cl (u := u) (b := q.2) g2.1
    have hro := unR_ok (u := u) (mm := mm) (b := b) g1.1 g2.1 g1.2 g2.2
    cases h1 : (a.v == 0) with
    | true =>
      have h1' : a.v = 0 := by simpa using h1
      cases h2 : (d.v == 0) with
      | true =>
        rw [if_pos ⟨h1', by simpa using h2⟩] at hq
        cases h3 : (a.f == d.f) with
        | true =>
          rw [if_pos (by simpa using h3)] at hq
          have hT := equalO_tri (fun s => oL (unL u mm s)) [u, mm] 78 [.ptr u 0] [] (fun x y s => oneF n s x y) (fun s k' hk => unL_cl (hk mm (by simp))) (enter78) a.us d.us (fun x _ y _ s q hq => ih s x y q hq) b q hq
          repeat' (first | refine awp_seq_k fun K hK => ?_ | ((first | refine awp_region_k (by kernel_rfl) fun R hR => ?_ | refine awp_draw mixed (by kernel_rfl) (by kernel_rfl) fun R hR => ?_); simp only [go_sem, g1.2, g2.2, n1, n2, h1, h2, h3]) | ((first | (refine hR _ ?_; clear hR R) | refine awp_skip ?_ | refine awp_exit ?_ | refine awp_ret ?_); try simp only [thenA, inBlockA, reduceIte, reduceCtorEq, Nat.reduceEqDiff, if_false, if_true]) | ((first | refine hK _ ?_ | (clear hK K; first | refine hK _ ?_ | (clear hK K; first | refine hK _ ?_ | (clear hK K; first | refine hK _ ?_ | (clear hK K; refine hK _ ?_))))); clear hK K) | refine awp_true rfl rfl ?_ | refine awp_false rfl rfl ?_ | refine awp_block ?_ | ((first | refine CallK.look (enter107) (r1) ?_ (by assumption) (by repeat (first | exact Fr.rfl' _ _ | assumption | refine Fr.updk ?_ (by omega) _)) ?_ | refine CallD.look (enter107) (r1) ?_ (by assumption) (by repeat (first | exact Fr.rfl' _ _ | assumption | refine Fr.updk ?_ (by omega) _)) (by first | assumption | exact List.cons_ne_nil _ _) ?_); (focus first | ((repeat (first | exact trivial | refine ⟨(by first | exact Or.inl rfl | exact Or.inr rfl), ?_⟩)); done) | (simp only [coL, AV.dat, true_or, or_true, AV.d.injEq, go_sem]; done)); simp only [go_sem, g1.2, g2.2, n1, n2, h1, h2, h3]) | ((first | refine CallK.look (enter107) (r2) ?_ (by assumption) (by repeat (first | exact Fr.rfl' _ _ | assumption | refine Fr.updk ?_ (by omega) _)) ?_ | refine CallD.look (enter107) (r2) ?_ (by assumption) (by repeat (first | exact Fr.rfl' _ _ | assumption | refine Fr.updk ?_ (by omega) _)) (by first | assumption | exact List.cons_ne_nil _ _) ?_); (focus first | ((repeat (first | exact trivial | refine ⟨(by first | exact Or.inl rfl | exact Or.inr rfl), ?_⟩)); done) | (simp only [coL, AV.dat, true_or, or_true, AV.d.injEq, go_sem]; done)); simp only [go_sem, g1.2, g2.2, n1, n2, h1, h2, h3]) | ((first | refine CallK.chg (enter74) (hT) ?_ (unL_ag hnd g1.1 g2.1 (by simp only [go_sem, g1.2, n1]) (by simp only [go_sem, g2.2, n2])) (Fr.rfl' _ _) ?_ | refine CallD.chg (enter74) (hT) ?_ (unL_ag hnd g1.1 g2.1 (by simp only [go_sem, g1.2, n1]) (by simp only [go_sem, g2.2, n2])) (Fr.rfl' _ _) (by first | assumption | exact List.cons_ne_nil _ _) ?_); (focus first | ((repeat (first | exact trivial | refine ⟨(by first | exact Or.inl rfl | exact Or.inr rfl), ?_⟩)); done) | (simp only [coL, AV.dat, true_or, or_true, AV.d.injEq, go_sem]; done)); simp only [go_sem, g1.2, g2.2, n1, n2, h1, h2, h3]) | refine And.intro (by first | ((repeat' first | omega | exact trivial | rfl | assumption | (intro a e; subst e; rfl) | exact map_sz fun a => (by simp only [go_sem]) | refine And.intro ?_ ?_); done) | fail) ?_ | fail)
          refine ret_st (by simp only [Try.results78, resOkL, resOk, Try.ntmps78, List.toList_toArray]; first | decide | (simp only [go_sem]; done) | (simp only [go_sem]; and_intros <;> first | omega | rfl | decide)) (by simp only [resA, resV, Try.results78, go_sem]; first | exact .dat rfl | exact Co.t2 (.dat rfl) (.dat rfl) | exact Co.t3 (.dat rfl) (.dat rfl) (.dat rfl)) ?_ ?_ ?_
          · exact (one_end hnd g1.1 g2.1 (by repeat (first | exact FrN.rfl' _ _ _ | assumption | refine FrN.updk ?_ (by omega) _ | refine FrN.stH ?_ _))).1
          · exact (one_end hnd g1.1 g2.1 (by repeat (first | exact FrN.rfl' _ _ _ | assumption | refine FrN.updk ?_ (by omega) _ | refine FrN.stH ?_ _))).2
          · exact hcq
        | false =>
          rw [if_neg (by simpa using h3)] at hq
          cases hq
          repeat' (first | refine awp_seq_k fun K hK => ?_ | ((first | refine awp_region_k (by kernel_rfl) fun R hR => ?_ | refine awp_draw mixed (by kernel_rfl) (by kernel_rfl) fun R hR => ?_); simp only [go_sem, g1.2, g2.2, n1, n2, h1, h2, h3]) | ((first | (refine hR _ ?_; clear hR R) | refine awp_skip ?_ | refine awp_exit ?_ | refine awp_ret ?_); try simp only [thenA, inBlockA, reduceIte, reduceCtorEq, Nat.reduceEqDiff, if_false, if_true]) | ((first | refine hK _ ?_ | (clear hK K; first | refine hK _ ?_ | (clear hK K; first | refine hK _ ?_ | (clear hK K; first | refine hK _ ?_ | (clear hK K; refine hK _ ?_))))); clear hK K) | refine awp_true rfl rfl ?_ | refine awp_false rfl rfl ?_ | refine awp_block ?_ | ((first | refine CallK.look (enter107) (r1) ?_ (by assumption) (by repeat (first | exact Fr.rfl' _ _ | assumption | refine Fr.updk ?_ (by omega) _)) ?_ | refine CallD.look (enter107) (r1) ?_ (by assumption) (by repeat (first | exact Fr.rfl' _ _ | assumption | refine Fr.updk ?_ (by omega) _)) (by first | assumption | exact List.cons_ne_nil _ _) ?_); (focus first | ((repeat (first | exact trivial | refine ⟨(by first | exact Or.inl rfl | exact Or.inr rfl), ?_⟩)); done) | (simp only [coL, AV.dat, true_or, or_true, AV.d.injEq, go_sem]; done)); simp only [go_sem, g1.2, g2.2, n1, n2, h1, h2, h3]) | ((first | refine CallK.look (enter107) (r2) ?_ (by assumption) (by repeat (first | exact Fr.rfl' _ _ | assumption | refine Fr.updk ?_ (by omega) _)) ?_ | refine CallD.look (enter107) (r2) ?_ (by assumption) (by repeat (first | exact Fr.rfl' _ _ | assumption | refine Fr.updk ?_ (by omega) _)) (by first | assumption | exact List.cons_ne_nil _ _) ?_); (focus first | ((repeat (first | exact trivial | refine ⟨(by first | exact Or.inl rfl | exact Or.inr rfl), ?_⟩)); done) | (simp only [coL, AV.dat, true_or, or_true, AV.d.injEq, go_sem]; done)); simp only [go_sem, g1.2, g2.2, n1, n2, h1, h2, h3]) | refine And.intro (by first | ((repeat' first | omega | exact trivial | rfl | assumption | (intro a e; subst e; rfl) | exact map_sz fun a => (by simp only [go_sem]) | refine And.intro ?_ ?_); done) | fail) ?_ | fail)
          refine ret_st (by simp only [Try.results78, resOkL, resOk, Try.ntmps78, List.toList_toArray]; first | decide | (simp only [go_sem]; done) | (simp only [go_sem]; and_intros <;> first | omega | rfl | decide)) ?_ (by repeat (first | assumption | exact Ag.stN (by assumption) _ _ | refine Ag.updk ?_ (by omega) _)) (by repeat (first | exact FrN.rfl' _ _ _ | assumption | refine FrN.updk ?_ (by omega) _ | refine FrN.stH ?_ _)) (by assumption)
          simp only [resA, resV, Try.results78, go_sem]
          all_goals try (first | exact .dat rfl | exact Co.t2 (.dat rfl) (.dat rfl) | exact Co.t3 (.dat rfl) (.dat rfl) (.dat rfl))
      | false =>
        rw [if_neg (fun h => by simp [h.2] at h2), if_pos h1'] at hq
        have fin := fun σ B => one_rest (w0 := w0) (b := b) (a := d) (d := a) (k := k) (n := n) (h0 := h0) (q := q) (fn := Try.f78) rfl hnd g1.1 g2.1 σ B
        repeat' (first | refine fin _ ?_ ih hq rfl rfl | refine awp_seq_k fun K hK => ?_ | ((first | refine awp_region_k (by kernel_rfl) fun R hR => ?_ | refine awp_draw mixed (by kernel_rfl) (by kernel_rfl) fun R hR => ?_); simp only [go_sem, g1.2, g2.2, n1, n2, h1, h2]) | ((first | (refine hR _ ?_; clear hR R) | refine awp_skip ?_ | refine awp_exit ?_ | refine awp_ret ?_); try simp only [thenA, inBlockA, reduceIte, reduceCtorEq, Nat.reduceEqDiff, if_false, if_true]) | ((first | refine hK _ ?_ | (clear hK K; first | refine hK _ ?_ | (clear hK K; first | refine hK _ ?_ | (clear hK K; first | refine hK _ ?_ | (clear hK K; refine hK _ ?_))))); clear hK K) | refine awp_true rfl rfl ?_ | refine awp_false rfl rfl ?_ | refine awp_block ?_ | ((first | refine CallK.look (enter107) (r1) ?_ (by assumption) (by repeat (first | exact Fr.rfl' _ _ | assumption | refine Fr.updk ?_ (by omega) _)) ?_ | refine CallD.look (enter107) (r1) ?_ (by assumption) (by repeat (first | exact Fr.rfl' _ _ | assumption | refine Fr.updk ?_ (by omega) _)) (by first | assumption | exact List.cons_ne_nil _ _) ?_); (focus first | ((repeat (first | exact trivial | refine ⟨(by first | exact Or.inl rfl | exact Or.inr rfl), ?_⟩)); done) | (simp only [coL, AV.dat, true_or, or_true, AV.d.injEq, go_sem]; done)); simp only [go_sem, g1.2, g2.2, n1, n2, h1, h2]) | ((first | refine CallK.look (enter107) (r2) ?_ (by assumption) (by repeat (first | exact Fr.rfl' _ _ | assumption | refine Fr.updk ?_ (by omega) _)) ?_ | refine CallD.look (enter107) (r2) ?_ (by assumption) (by repeat (first | exact Fr.rfl' _ _ | assumption | refine Fr.updk ?_ (by omega) _)) (by first | assumption | exact List.cons_ne_nil _ _) ?_); (focus first | ((repeat (first | exact trivial | refine ⟨(by first | exact Or.inl rfl | exact Or.inr rfl), ?_⟩)); done) | (simp only [coL, AV.dat, true_or, or_true, AV.d.injEq, go_sem]; done)); simp only [go_sem, g1.2, g2.2, n1, n2, h1, h2]) | refine And.intro (by first | ((repeat' first | omega | exact trivial | rfl | assumption | (intro a e; subst e; rfl) | exact map_sz fun a => (by simp only [go_sem]) | refine And.intro ?_ ?_); done) | fail) ?_ | fail)
        constructor <;> first | (simp only [go_sem, g1.2, g2.2, n1, n2]; done) | (simp only [go_sem]; omega) | (dsimp only; omega) | exact (by repeat (first | exact Fr.rfl' _ _ | assumption | refine Fr.updk ?_ (by omega) _))
    | false =>
      rw [if_neg (fun h => by simp [h.1] at h1), if_neg (by simpa using h1)] at hq
      have fin := fun σ B => one_rest (w0 := w0) (b := b) (a := a) (d := d) (k := k) (n := n) (h0 := h0) (q := q) (fn := Try.f78) rfl hnd g1.1 g2.1 σ B
      repeat' (first | refine fin _ ?_ ih hq rfl rfl | refine awp_seq_k fun K hK => ?_ | ((first | refine awp_region_k (by kernel_rfl) fun R hR => ?_ | refine awp_draw mixed (by kernel_rfl) (by kernel_rfl) fun R hR => ?_); simp only [go_sem, g1.2, g2.2, n1, n2, h1]) | ((first | (refine hR _ ?_; clear hR R) | refine awp_skip ?_ | refine awp_exit ?_ | refine awp_ret ?_); try simp only [thenA, inBlockA, reduceIte, reduceCtorEq, Nat.reduceEqDiff, if_false, if_true]) | ((first | refine hK _ ?_ | (clear hK K; first | refine hK _ ?_ | (clear hK K; first | refine hK _ ?_ | (clear hK K; first | refine hK _ ?_ | (clear hK K; refine hK _ ?_))))); clear hK K) | refine awp_true rfl rfl ?_ | refine awp_false rfl rfl ?_ | refine awp_block ?_ | ((first | refine CallK.look (enter107) (r1) ?_ (by assumption) (by repeat (first | exact Fr.rfl' _ _ | assumption | refine Fr.updk ?_ (by omega) _)) ?_ | refine CallD.look (enter107) (r1) ?_ (by assumption) (by repeat (first | exact Fr.rfl' _ _ | assumption | refine Fr.updk ?_ (by omega) _)) (by first | assumption | exact List.cons_ne_nil _ _) ?_); (focus first | ((repeat (first | exact trivial | refine ⟨(by first | exact Or.inl rfl | exact Or.inr rfl), ?_⟩)); done) | (simp only [coL, AV.dat, true_or, or_true, AV.d.injEq, go_sem]; done)); simp only [go_sem, g1.2, g2.2, n1, n2, h1]) | ((first | refine CallK.look (enter107) (r2) ?_ (by assumption) (by repeat (first | exact Fr.rfl' _ _ | assumption | refine Fr.updk ?_ (by omega) _)) ?_ | refine CallD.look (enter107) (r2) ?_ (by assumption) (by repeat (first | exact Fr.rfl' _ _ | assumption | refine Fr.updk ?_ (by omega) _)) (by first | assumption | exact List.cons_ne_nil _ _) ?_); (focus first | ((repeat (first | exact trivial | refine ⟨(by first | exact Or.inl rfl | exact Or.inr rfl), ?_⟩)); done) | (simp only [coL, AV.dat, true_or, or_true, AV.d.injEq, go_sem]; done)); simp only [go_sem, g1.2, g2.2, n1, n2, h1]) | refine And.intro (by first | ((repeat' first | omega | exact trivial | rfl | assumption | (intro a e; subst e; rfl) | exact map_sz fun a => (by simp only [go_sem]) | refine And.intro ?_ ?_); done) | fail) ?_ | fail)
      constructor <;> first | (simp only [go_sem, g1.2, g2.2, n1, n2]; done) | (simp only [go_sem]; omega) | (dsimp only; omega) | exact (by repeat (first | exact Fr.rfl' _ _ | assumption | refine Fr.updk ?_ (by omega) _))
end Go.Proofs.Ytmeekpinkfpnhab
namespace Go.Proofs.Ytmeekpinkfpnhab
open Go.RowKit
abbrev knE (kn : List (Int × Int)) : List (Int × DV) := mapE' iD kn
abbrev szL (u mm km : Nm) (b : Bs) (kn : List (Int × Int)) : List (Nm × Ob) := [(u, .cells 122 [.map mm]), (mm, .map (bsE b)), (km, .map (knE kn))]
theorem szL_cl {u mm km : Nm} {b : Bs} {kn : List (Int × Int)} {k : Nat} (h : mm.1 < k) : Cl k [u, mm, km] (oL (szL u mm km b kn)) := Cl.ofL fun p hp x hx => by
  simp only [szL, List.mem_cons, List.not_mem_nil, or_false] at hp
  rcases hp with rfl | rfl | rfl
  · simp [Ob.names, namesL, AV.names] at hx; rw [hx]; exact h
  · simp [Ob.names] at hx
  · simp [Ob.names] at hx
section
variable {u mm km : Nm} {b : Bs} {kn : List (Int × Int)} {k : Nat} {h : Heap} (hnd : [u, mm, km].Nodup)
include hnd
theorem szL_ag (h1 : u.1 < k) (h2 : mm.1 < k) (h3 : km.1 < k) (e1 : h u = some (.cells 122 [.map mm])) (e2 : h mm = some (.map (bsE b))) (e3 : h km = some (.map (knE kn))) : Ag k [u, mm, km] (oL (szL u mm km b kn)) h := Ag.ofL (l := szL u mm km b kn) hnd fun p hp => by
  simp only [szL, List.mem_cons, List.not_mem_nil, or_false] at hp
  rcases hp with rfl | rfl | rfl
  · exact ⟨h1, e1⟩
  · exact ⟨h2, e2⟩
  · exact ⟨h3, e3⟩
theorem szL_get (ha : Ag k [u, mm, km] (oL (szL u mm km b kn)) h) : (u.1 < k ∧ h u = some (.cells 122 [.map mm])) ∧ (mm.1 < k ∧ h mm = some (.map (bsE b))) ∧ (km.1 < k ∧ h km = some (.map (knE kn))) := by
  have hg := Ag.toL (l := szL u mm km b kn) hnd ha
  exact ⟨hg (u, .cells 122 [.map mm]) (by simp), hg (mm, .map (bsE b)) (by simp), hg (km, .map (knE kn)) (by simp)⟩
theorem szL_st : stH [u, mm, km] (oL (szL u mm km b kn)) h u = some (.cells 122 [.map mm]) ∧ stH [u, mm, km] (oL (szL u mm km b kn)) h mm = some (.map (bsE b)) ∧ stH [u, mm, km] (oL (szL u mm km b kn)) h km = some (.map (knE kn)) :=
  ⟨by rw [stH_in (by simp), oL_mem (l := szL u mm km b kn) (p := (u, _)) hnd (List.mem_cons_self ..)], by rw [stH_in (by simp), oL_mem (l := szL u mm km b kn) (p := (mm, _)) hnd (List.mem_cons_of_mem _ (List.mem_cons_self ..))], by rw [stH_in (by simp), oL_mem (l := szL u mm km b kn) (p := (km, _)) hnd (List.mem_cons_of_mem _ (List.mem_cons_of_mem _ (List.mem_cons_self ..)))]⟩
end
/-! ### bounds -/
def KnOk (kn : List (Int × Int)) : Prop := ∀ p ∈ kn, 0 ≤ p.2 ∧ p.2 ≤ 1000
theorem look_kn {kn : List (Int × Int)} (h : KnOk kn) {v s : Int} (hs : lookA v kn = some s) : 0 ≤ s ∧ s ≤ 1000 := by
  induction kn with
  | nil => cases hs
  | cons p kn ih =>
    rw [lookA] at hs
    by_cases hv : v = p.1
    · rw [if_pos hv] at hs; cases hs; exact h p (by simp)
    · rw [if_neg hv] at hs; exact ih (fun q hq => h q (by simp [hq])) hs
theorem put_kn {kn : List (Int × Int)} (h : KnOk kn) {v s : Int} (hs : 0 ≤ s ∧ s ≤ 1000) : KnOk (putA v s kn) := by
  induction kn with
  | nil => intro p hp; simp [putA] at hp; subst hp; exact hs
  | cons p kn ih =>
    rw [putA]
    split
    · intro q hq
      rcases List.mem_cons.1 hq with rfl | hq
      · exact hs
      · exact h q (by simp [hq])
    · intro q hq
      rcases List.mem_cons.1 hq with rfl | hq
      · exact h _ (by simp)
      · exact ih (fun q hq => h q (by simp [hq])) q hq
def StepBd (step : Tm → List (Int × Int) → Option (Int × List (Int × Int))) : Prop := ∀ t kn q, KnOk kn → step t kn = some q → (0 ≤ q.1 ∧ q.1 ≤ 1000) ∧ KnOk q.2
theorem sizeL_bd {step : Tm → List (Int × Int) → Option (Int × List (Int × Int))} (hs : StepBd step) : ∀ (us : List Tm) (a : Int) (kn : List (Int × Int)) (q : Int × List (Int × Int)), KnOk kn → 0 ≤ a ∧ a ≤ 1000 → sizeL step us a kn = some q → (0 ≤ q.1 ∧ q.1 ≤ 1000) ∧ KnOk q.2
  | [], a, kn, q, h, ha, hq => by rw [sizeL] at hq; cases hq; exact ⟨ha, h⟩
  | t :: us, a, kn, q, h, ha, hq => by
    rw [sizeL] at hq
    cases hst : step t kn with
    | none => rw [hst] at hq; cases hq
    | some r =>
      rw [hst] at hq
      obtain ⟨h1, h2⟩ := hs t kn r h hst
      exact sizeL_bd hs us _ r.2 q h2 (by split <;> omega) hq
theorem sizeF_bd (b : Bs) : ∀ n, StepBd (sizeF n b)
  | 0, t, kn, q, _, h => by simp [sizeF] at h
  | n + 1, t, kn, q, hk, h => by
    rw [sizeF] at h
    split at h
    · split at h
      · cases h; exact ⟨by omega, hk⟩
      · rename_i x _
        split at h
        · rename_i s hs; cases h; exact ⟨look_kn hk hs, hk⟩
        · obtain ⟨r, hr, rfl⟩ := Option.map_eq_some_iff.1 h
          obtain ⟨h1, h2⟩ := sizeF_bd b n x kn r hk hr
          exact ⟨h1, put_kn h2 h1⟩
    · exact sizeL_bd (sizeF_bd b n) t.us 1 kn q hk (by omega) h
theorem sizeL_at {step : Tm → List (Int × Int) → Option (Int × List (Int × Int))} {us : List Tm} {i : Nat} (hi : i < us.length) {a : Int} {kn : List (Int × Int)} : sizeL step (us.drop i) a kn = match step us[i] kn with
    | none => none
    | some r => sizeL step (us.drop (i + 1)) (if 1000 < a + r.1 then 1000 else a + r.1) r.2 := by
  rw [List.drop_eq_getElem_cons hi, sizeL]
  all_goals rfl
def USizeSpec (u mm km : Nm) (b : Bs) (n : Nat) (t : Tm) : Prop := ∀ kn q, KnOk kn → sizeF n b t kn = some q → Tri Try.prog 79 [.ptr u 0, .d (tmDV t), .map km] (stE [u, mm, km] (oL (szL u mm km b kn)) (oL (szL u mm km b q.2)) (iA q.1))
set_option maxHeartbeats 4000000 in
set_option maxRecDepth 20000 in
theorem usize_tri (u mm km : Nm) (hnd : [u, mm, km].Nodup) (b : Bs) : ∀ (n : Nat) (t : Tm), USizeSpec u mm km b n t := by
  intro n
  induction n with
  | zero => intro t kn q _ h; simp [sizeF] at h
  | succ n ih =>
    intro t kn q hk h
    refine tri_enter_st Try.func79 rfl Try.ntmps79 (by simp only [List.length_cons, List.length_nil]; omega) fun w0 h0 k hag => ?_
    obtain ⟨g1, g2, g3⟩ := szL_get hnd hag
    have n1 := nmne g1.1
    have n2 := nmne g2.1
    have n3 := nmne g3.1
    have hd := hnd
    simp only [List.nodup_cons, List.mem_cons, not_or, List.not_mem_nil, or_false] at hd
    have d1 : (u = km) = False := eq_false hd.1.2
    have d2 : (mm = km) = False := eq_false hd.2.1
    have hcl := fun kn' => szL_cl (u := u) (mm := mm) (km := km) (b := b) (kn := kn') g2.1
    have hcq := hcl q.2
    have hA := fun (kn' : List (Int × Int)) (h : Heap) => szL_ag (b := b) (kn := kn') (h := h) hnd g1.1 g2.1 g3.1
    rw [sizeF] at h
    cases h1 : decide (t.v > 0) with
    | true =>
      rw [if_pos (by simpa using h1)] at h
      cases hl : lookB t.v b with
      | none =>
        have hga := lookB_no hl
        rw [hl] at h
        cases h
        have hcn := hcl kn
        repeat' (first | refine awp_seq_k fun K hK => ?_ | ((first | refine awp_region_k (by kernel_rfl) fun R hR => ?_ | refine awp_draw mixed (by kernel_rfl) (by kernel_rfl) fun R hR => ?_); simp only [go_sem, n1, n2, n3, g1.2, g2.2, g3.2, h1, hga, AV.toD, Option.getD_none, Option.isSome_none]) | ((first | (refine hR _ ?_; clear hR R) | refine awp_skip ?_ | refine awp_exit ?_ | refine awp_ret ?_); try simp only [thenA, inBlockA, reduceIte, reduceCtorEq, Nat.reduceEqDiff, if_false, if_true]) | ((first | refine hK _ ?_ | (clear hK K; first | refine hK _ ?_ | (clear hK K; first | refine hK _ ?_ | (clear hK K; first | refine hK _ ?_ | (clear hK K; refine hK _ ?_))))); clear hK K) | refine awp_true rfl rfl ?_ | refine awp_false rfl rfl ?_ | refine awp_block ?_ | refine And.intro (by first | ((repeat' first | omega | exact trivial | rfl | assumption | (intro a e; subst e; rfl) | exact map_sz fun a => (by simp only [go_sem]) | refine And.intro ?_ ?_); done) | fail) ?_ | fail)
        refine ret_st (by simp only [Try.results79, resOkL, resOk, Try.ntmps79, List.toList_toArray]; first | decide | (simp only [go_sem]; done) | (simp only [go_sem]; and_intros <;> first | omega | rfl | decide)) ?_ (by repeat (first | assumption | exact Ag.stN (by assumption) _ _ | refine Ag.updk ?_ (by omega) _)) (by repeat (first | exact FrN.rfl' _ _ _ | assumption | refine FrN.updk ?_ (by omega) _ | refine FrN.stH ?_ _)) (by assumption)
        simp only [resA, resV, Try.results79, go_sem]
        all_goals try (first | exact .dat rfl | exact Co.t2 (.dat rfl) (.dat rfl) | exact Co.t3 (.dat rfl) (.dat rfl) (.dat rfl))
      | some x =>
        have hga := lookB_key hl
        rw [hl] at h
        dsimp only at h
        cases hs : lookA t.v kn with
        | some s =>
          rw [hs] at h
          cases h
          have hgk : getM t.v (knE kn) = some (iD s) := by rw [getM_A, hs]; rfl
          have hcn := hcl kn
          repeat' (first | refine awp_seq_k fun K hK => ?_ | ((first | refine awp_region_k (by kernel_rfl) fun R hR => ?_ | refine awp_draw mixed (by kernel_rfl) (by kernel_rfl) fun R hR => ?_); simp only [go_sem, n1, n2, n3, g1.2, g2.2, g3.2, h1, hga, hgk, Option.isSome_some]) | ((first | (refine hR _ ?_; clear hR R) | refine awp_skip ?_ | refine awp_exit ?_ | refine awp_ret ?_); try simp only [thenA, inBlockA, reduceIte, reduceCtorEq, Nat.reduceEqDiff, if_false, if_true]) | ((first | refine hK _ ?_ | (clear hK K; first | refine hK _ ?_ | (clear hK K; first | refine hK _ ?_ | (clear hK K; first | refine hK _ ?_ | (clear hK K; refine hK _ ?_))))); clear hK K) | refine awp_true rfl rfl ?_ | refine awp_false rfl rfl ?_ | refine awp_block ?_ | refine And.intro (by first | ((repeat' first | omega | exact trivial | rfl | assumption | (intro a e; subst e; rfl) | exact map_sz fun a => (by simp only [go_sem]) | refine And.intro ?_ ?_); done) | fail) ?_ | fail)
          refine ret_st (by simp only [Try.results79, resOkL, resOk, Try.ntmps79, List.toList_toArray]; first | decide | (simp only [go_sem]; done) | (simp only [go_sem]; and_intros <;> first | omega | rfl | decide)) ?_ (by repeat (first | assumption | exact Ag.stN (by assumption) _ _ | refine Ag.updk ?_ (by omega) _)) (by repeat (first | exact FrN.rfl' _ _ _ | assumption | refine FrN.updk ?_ (by omega) _ | refine FrN.stH ?_ _)) (by assumption)
          simp only [resA, resV, Try.results79, go_sem]
          all_goals try (first | exact .dat rfl | exact Co.t2 (.dat rfl) (.dat rfl) | exact Co.t3 (.dat rfl) (.dat rfl) (.dat rfl))
        | none =>
          rw [hs] at h
          dsimp only at h
          obtain ⟨r, hr, rfl⟩ := Option.map_eq_some_iff.1 h
          have hgk : getM t.v (knE kn) = none := by rw [getM_A, hs]; rfl
          have hT := ih x kn r hk hr
          have hpm : putM t.v (.v (.int .i64 r.1)) (knE r.2) = knE (putA t.v r.1 r.2) := putM_A iD t.v r.1 r.2
          repeat' (first | refine awp_seq_k fun K hK => ?_ | ((first | refine awp_region_k (by kernel_rfl) fun R hR => ?_ | refine awp_draw mixed (by kernel_rfl) (by kernel_rfl) fun R hR => ?_); simp only [go_sem, n1, n2, n3, g1.2, g2.2, g3.2, h1, hga, hgk, Option.isSome_some, Option.isSome_none, AV.toD, Option.getD_none, Option.getD_some, (szL_st hnd).2.2, hpm]) | ((first | (refine hR _ ?_; clear hR R) | refine awp_skip ?_ | refine awp_exit ?_ | refine awp_ret ?_); try simp only [thenA, inBlockA, reduceIte, reduceCtorEq, Nat.reduceEqDiff, if_false, if_true]) | ((first | refine hK _ ?_ | (clear hK K; first | refine hK _ ?_ | (clear hK K; first | refine hK _ ?_ | (clear hK K; first | refine hK _ ?_ | (clear hK K; refine hK _ ?_))))); clear hK K) | refine awp_true rfl rfl ?_ | refine awp_false rfl rfl ?_ | refine awp_block ?_ | ((first | refine CallK.chg (enter79) (hT) ?_ (hA kn _ (by simp only [go_sem, n1, g1.2]) (by simp only [go_sem, n2, g2.2]) (by simp only [go_sem, n3, g3.2])) (Fr.rfl' _ _) ?_ | refine CallD.chg (enter79) (hT) ?_ (hA kn _ (by simp only [go_sem, n1, g1.2]) (by simp only [go_sem, n2, g2.2]) (by simp only [go_sem, n3, g3.2])) (Fr.rfl' _ _) (by first | assumption | exact List.cons_ne_nil _ _) ?_); (focus first | ((repeat (first | exact trivial | refine ⟨(by first | exact Or.inl rfl | exact Or.inr rfl), ?_⟩)); done) | (simp only [coL, AV.dat, true_or, or_true, AV.d.injEq, go_sem]; done)); simp only [go_sem, n1, n2, n3, g1.2, g2.2, g3.2, h1, hga, hgk, Option.isSome_some, Option.isSome_none, AV.toD, Option.getD_none, Option.getD_some, (szL_st hnd).2.2, hpm]) | refine And.intro (by first | ((repeat' first | omega | exact trivial | rfl | assumption | (intro a e; subst e; rfl) | exact map_sz fun a => (by simp only [go_sem]) | refine And.intro ?_ ?_); done) | fail) ?_ | fail)
          refine ret_st (by simp only [Try.results79, resOkL, resOk, Try.ntmps79, List.toList_toArray]; first | decide | (simp only [go_sem]; done) | (simp only [go_sem]; and_intros <;> first | omega | rfl | decide)) (by simp only [resA, resV, Try.results79, go_sem]; first | exact .dat rfl | exact Co.t2 (.dat rfl) (.dat rfl) | exact Co.t3 (.dat rfl) (.dat rfl) (.dat rfl)) ?_ ?_ ?_
          · refine hA _ _ ?_ ?_ ?_
            · show upd _ _ _ _ = _
              rw [upd_ne _ _ (by simpa using hd.1.2)]; exact (szL_st hnd).1
            · show upd _ _ _ _ = _
              rw [upd_ne _ _ (by simpa using hd.2.1)]; exact (szL_st hnd).2.1
            · show upd _ _ _ _ = _
              rw [upd_self]
          · exact (by repeat (first | exact FrN.rfl' _ _ _ | assumption | refine FrN.updk ?_ (by omega) _ | refine FrN.updn ?_ (by simp) _ | refine FrN.stH ?_ _))
          · exact hcq
    | false =>
      rw [if_neg (by simpa using h1)] at h
      repeat' (first | refine awp_seq_k fun K hK => ?_ | ((first | refine awp_region_k (by kernel_rfl) fun R hR => ?_ | refine awp_draw mixed (by kernel_rfl) (by kernel_rfl) fun R hR => ?_); simp only [go_sem, n1, n2, n3, g1.2, g2.2, g3.2, h1]) | ((first | (refine hR _ ?_; clear hR R) | refine awp_skip ?_ | refine awp_exit ?_ | refine awp_ret ?_); try simp only [thenA, inBlockA, reduceIte, reduceCtorEq, Nat.reduceEqDiff, if_false, if_true]) | ((first | refine hK _ ?_ | (clear hK K; first | refine hK _ ?_ | (clear hK K; first | refine hK _ ?_ | (clear hK K; first | refine hK _ ?_ | (clear hK K; refine hK _ ?_))))); clear hK K) | refine awp_true rfl rfl ?_ | refine awp_false rfl rfl ?_ | refine awp_block ?_ | refine And.intro (by first | ((repeat' first | omega | exact trivial | rfl | assumption | (intro a e; subst e; rfl) | exact map_sz fun a => (by simp only [go_sem]) | refine And.intro ?_ ?_); done) | fail) ?_ | fail)
      refine awp_len (i := 47) (xs := t.us.map tmDV) (by decide) (by simp only [go_sem, ]) fun hl => ?_
      rw [List.length_map] at hl
      refine awp_loop (fun σ => ∃ (i : Nat) (a : Int) (kn' : List (Int × Int)), σ.t 0 = .ptr u 0 ∧ σ.t 2 = .map km ∧ σ.t 10 = iA a ∧ σ.t 47 = .d (.sl (t.us.map tmDV)) ∧ σ.t 48 = iA t.us.length ∧ σ.t 49 = iA i ∧ Ag k [u, mm, km] (oL (szL u mm km b kn')) σ.h ∧ FrN k [u, mm, km] h0 σ.h ∧ k < σ.k ∧ i ≤ t.us.length ∧ KnOk kn' ∧ (0 ≤ a ∧ a ≤ 1000) ∧ sizeL (sizeF n b) (t.us.drop i) a kn' = some q) (fun σ => t.us.length - (intOf' (σ.t 49)).toNat) ?_ ?_
      · refine ⟨0, 1, kn, ?_⟩
        simp only [go_sem, List.drop_zero]
        and_intros; all_goals try (first | rfl | omega | assumption | ((repeat (first | exact Fr.rfl' _ _ | assumption | refine Fr.updk ?_ (by omega) _)); done))
        · exact hA kn _ (by simp only [go_sem, n1, g1.2]) (by simp only [go_sem, n2, g2.2]) (by simp only [go_sem, n3, g3.2])
        · exact (by repeat (first | exact FrN.rfl' _ _ _ | assumption | refine FrN.updk ?_ (by omega) _ | refine FrN.stH ?_ _))
      · rintro σ ⟨i, a, kn', s0, s2, s10, s47, s48, s49, hAg, hF, hkk, hi, hk', ha, hv⟩
        rcases Nat.lt_or_ge i t.us.length with hlt | hge
        · have hz : (i : Int) < (t.us.length : Int) := by omega
          have e1 : (t.us.map tmDV).getD i default = tmDV t.us[i] := nth_map tmDV hlt _
          rw [sizeL_at hlt] at hv
          cases hst : sizeF n b t.us[i] kn' with
          | none => rw [hst] at hv; cases hv
          | some r =>
            rw [hst] at hv
            dsimp only at hv
            have hT := ih t.us[i] kn' r hk' hst
            obtain ⟨hb1, hb2⟩ := sizeF_bd b n t.us[i] kn' r hk' hst
            have hne := ltne hkk
            have hlt0 : ∀ n ∈ [u, mm, km], n.1 < k := fun n hn => (hag.get n hn).1
            repeat' (first | refine awp_seq_k fun K hK => ?_ | ((first | refine awp_region_k (by kernel_rfl) fun R hR => ?_ | refine awp_draw mixed (by kernel_rfl) (by kernel_rfl) fun R hR => ?_); simp only [go_sem, s0, s2, s10, s47, s48, s49, hz, e1, Int.toNat_natCast]) | ((first | (refine hR _ ?_; clear hR R) | refine awp_skip ?_ | refine awp_exit ?_ | refine awp_ret ?_); try simp only [thenA, inBlockA, reduceIte, reduceCtorEq, Nat.reduceEqDiff, if_false, if_true]) | ((first | refine hK _ ?_ | (clear hK K; first | refine hK _ ?_ | (clear hK K; first | refine hK _ ?_ | (clear hK K; first | refine hK _ ?_ | (clear hK K; refine hK _ ?_))))); clear hK K) | refine awp_true rfl rfl ?_ | refine awp_false rfl rfl ?_ | refine awp_block ?_ | ((first | refine CallK.chg (enter79) (hT) ?_ (by assumption) (by repeat (first | exact Fr.rfl' _ _ | assumption | refine Fr.updk ?_ (by omega) _)) ?_ | refine CallD.chg (enter79) (hT) ?_ (by assumption) (by repeat (first | exact Fr.rfl' _ _ | assumption | refine Fr.updk ?_ (by omega) _)) (by assumption) ?_); (focus first | ((repeat (first | exact trivial | refine ⟨(by first | exact Or.inl rfl | exact Or.inr rfl), ?_⟩)); done) | (simp only [coL, AV.dat, true_or, or_true, AV.d.injEq, go_sem]; done)); simp only [go_sem, s0, s2, s10, s47, s48, s49, hz, e1, Int.toNat_natCast]) | refine And.intro (by first | ((repeat' first | omega | exact trivial | rfl | assumption | (intro a e; subst e; rfl) | exact map_sz fun a => (by simp only [go_sem]) | refine And.intro ?_ ?_); done) | fail) ?_ | fail)
            refine ⟨⟨i + 1, (if 1000 < a + r.1 then 1000 else a + r.1), r.2, ?_⟩, ?_⟩
            · simp only [go_sem, s0, s2, s10, s47, s48, s49]
              and_intros; all_goals try (first | rfl | omega | assumption | ((repeat (first | exact Fr.rfl' _ _ | assumption | refine Fr.updk ?_ (by omega) _)); done))
              · exact (by repeat (first | assumption | exact Ag.stN (by assumption) _ _ | refine Ag.updk ?_ (by omega) _))
              · exact (by repeat (first | exact FrN.rfl' _ _ _ | assumption | refine FrN.updk ?_ (by omega) _ | refine FrN.stH ?_ _))
              all_goals (split <;> omega)
            · simp only [go_sem, s49]; omega
        · have hz : ¬ ((i : Int) < (t.us.length : Int)) := by omega
          rw [List.drop_eq_nil_of_le hge, sizeL] at hv
          cases hv
          have hcn := hcl kn'
          repeat' (first | refine awp_seq_k fun K hK => ?_ | ((first | refine awp_region_k (by kernel_rfl) fun R hR => ?_ | refine awp_draw mixed (by kernel_rfl) (by kernel_rfl) fun R hR => ?_); simp only [go_sem, s0, s2, s10, s47, s48, s49, hz]) | ((first | (refine hR _ ?_; clear hR R) | refine awp_skip ?_ | refine awp_exit ?_ | refine awp_ret ?_); try simp only [thenA, inBlockA, reduceIte, reduceCtorEq, Nat.reduceEqDiff, if_false, if_true]) | ((first | refine hK _ ?_ | (clear hK K; first | refine hK _ ?_ | (clear hK K; first | refine hK _ ?_ | (clear hK K; first | refine hK _ ?_ | (clear hK K; refine hK _ ?_))))); clear hK K) | refine awp_true rfl rfl ?_ | refine awp_false rfl rfl ?_ | refine awp_block ?_ | refine And.intro (by first | ((repeat' first | omega | exact trivial | rfl | assumption | (intro a e; subst e; rfl) | exact map_sz fun a => (by simp only [go_sem]) | refine And.intro ?_ ?_); done) | fail) ?_ | fail)
          refine ret_st (by simp only [Try.results79, resOkL, resOk, Try.ntmps79, List.toList_toArray]; first | decide | (simp only [go_sem]; done) | (simp only [go_sem]; and_intros <;> first | omega | rfl | decide)) ?_ (by repeat (first | assumption | exact Ag.stN (by assumption) _ _ | refine Ag.updk ?_ (by omega) _)) (by repeat (first | exact FrN.rfl' _ _ _ | assumption | refine FrN.updk ?_ (by omega) _ | refine FrN.stH ?_ _)) (by assumption)
          simp only [resA, resV, Try.results79, go_sem]
          all_goals try (first | exact .dat rfl | exact Co.t2 (.dat rfl) (.dat rfl) | exact Co.t3 (.dat rfl) (.dat rfl) (.dat rfl))
end Go.Proofs.Ytmeekpinkfpnhab
namespace Go.Proofs.Ytmeekpinkfpnhab
open Go.RowKit
abbrev thR (bu u mm : Nm) (b : Bs) : List (Nm × Ob) := [(bu, .cells 120 [.ptr u 0]), (u, .cells 122 [.map mm]), (mm, .map (bsE b))]
theorem thR_ok {bu u mm : Nm} {b : Bs} {k : Nat} {h : Heap} (h0 : bu.1 < k) (h1 : u.1 < k) (h2 : mm.1 < k) (e0 : h bu = some (.cells 120 [.ptr u 0])) (e1 : h u = some (.cells 122 [.map mm])) (e2 : h mm = some (.map (bsE b))) : RoOK k (thR bu u mm b) h := ⟨fun x hx => by
  simp only [List.mem_cons, List.not_mem_nil, or_false] at hx
  rcases hx with rfl | rfl | rfl
  · exact ⟨h0, e0⟩
  · exact ⟨h1, e1⟩
  · exact ⟨h2, e2⟩⟩
def ThruSpec (u mm : Nm) (b : Bs) (n : Nat) : Prop := ∀ x : Tm, x.size ≤ 4000000 → thruOk n b x = true → Tri Try.prog 80 [.ptr u 0, .d (tmDV x)] (rdE (unR u mm b) (.d (tmDV (thruT n b x))))
section
variable {u mm : Nm} {b : Bs} {n : Nat} (hb : ∀ p ∈ b, p.2.size ≤ 4000000) (ih : ThruSpec u mm b n)
include hb ih
set_option maxHeartbeats 2000000 in
set_option maxRecDepth 20000 in
theorem through1_tri (bu : Nm) (x : Tm) (hok : ∀ y, lookB x.v b = some y → x.v > 0 → thruOk n b y = true) : Tri Try.prog 109 [.d (tmDV x), .ptr bu 0] (rdE (thR bu u mm b) (.tup [.d (tmDV (thruS (thruT n b) b x).1), bA (thruS (thruT n b) b x).2])) := by
  refine tri_enter_ro Try.func109 rfl Try.ntmps109 (by simp only [List.length_cons, List.length_nil]; omega) fun w0 h0 k hro => ?_
  obtain ⟨n0, e0⟩ := hro.get (bu, .cells 120 [.ptr u 0]) (by simp)
  obtain ⟨n1, e1⟩ := hro.get (u, .cells 122 [.map mm]) (by simp)
  obtain ⟨n2, e2⟩ := hro.get (mm, .map (bsE b)) (by simp)
  have q0 := nmne n0
  have q1 := nmne n1
  have q2 := nmne n2
  have hr2 := unR_ok (u := u) (mm := mm) (b := b) n1 n2 e1 e2
  unfold thruS
  cases hl : lookB x.v b with
  | none =>
    have hg := lookB_no hl
    dsimp only
    repeat' (first | refine awp_seq_k fun K hK => ?_ | ((first | refine awp_region_k (by kernel_rfl) fun R hR => ?_ | refine awp_draw mixed (by kernel_rfl) (by kernel_rfl) fun R hR => ?_); simp only [go_sem, e0, e1, e2, q0, q1, q2, hg, Option.isSome_none, AV.toD, Option.getD_none]) | ((first | (refine hR _ ?_; clear hR R) | refine awp_skip ?_ | refine awp_exit ?_ | refine awp_ret ?_); try simp only [thenA, inBlockA, reduceIte, reduceCtorEq, Nat.reduceEqDiff, if_false, if_true]) | ((first | refine hK _ ?_ | (clear hK K; first | refine hK _ ?_ | (clear hK K; first | refine hK _ ?_ | (clear hK K; first | refine hK _ ?_ | (clear hK K; refine hK _ ?_))))); clear hK K) | refine awp_true rfl rfl ?_ | refine awp_false rfl rfl ?_ | refine awp_block ?_ | refine And.intro (by first | ((repeat' first | omega | exact trivial | rfl | assumption | (intro a e; subst e; rfl) | exact map_sz fun a => (by simp only [go_sem]) | refine And.intro ?_ ?_); done) | fail) ?_ | fail)
    (first | refine ret_pure ?_ ?_ ?_ | refine ret_ro ?_ ?_ ?_); focus exact (by simp only [Try.results109, resOkL, resOk, Try.ntmps109, List.toList_toArray]; first | decide | (simp only [go_sem]; done) | (simp only [go_sem]; and_intros <;> first | omega | rfl | decide))
    rotate_left; focus exact (by repeat (first | exact Fr.rfl' _ _ | assumption | refine Fr.updk ?_ (by omega) _))
    simp only [resA, resV, Try.results109, go_sem]
    all_goals try (first | exact Co.t2 (.dat rfl) (.dat rfl) | exact Co.t3 (.dat rfl) (.dat rfl) (.dat rfl))
    exact .t2 (co_tm' rfl) (.dat rfl)
  | some y =>
    have hg := lookB_key hl
    dsimp only
    cases hv : decide (x.v > 0) with
    | false =>
      rw [if_neg (by simpa using hv)]
      repeat' (first | refine awp_seq_k fun K hK => ?_ | ((first | refine awp_region_k (by kernel_rfl) fun R hR => ?_ | refine awp_draw mixed (by kernel_rfl) (by kernel_rfl) fun R hR => ?_); simp only [go_sem, e0, e1, e2, q0, q1, q2, hg, hv, Option.isSome_some]) | ((first | (refine hR _ ?_; clear hR R) | refine awp_skip ?_ | refine awp_exit ?_ | refine awp_ret ?_); try simp only [thenA, inBlockA, reduceIte, reduceCtorEq, Nat.reduceEqDiff, if_false, if_true]) | ((first | refine hK _ ?_ | (clear hK K; first | refine hK _ ?_ | (clear hK K; first | refine hK _ ?_ | (clear hK K; first | refine hK _ ?_ | (clear hK K; refine hK _ ?_))))); clear hK K) | refine awp_true rfl rfl ?_ | refine awp_false rfl rfl ?_ | refine awp_block ?_ | refine And.intro (by first | ((repeat' first | omega | exact trivial | rfl | assumption | (intro a e; subst e; rfl) | exact map_sz fun a => (by simp only [go_sem]) | refine And.intro ?_ ?_); done) | fail) ?_ | fail)
      (first | refine ret_pure ?_ ?_ ?_ | refine ret_ro ?_ ?_ ?_); focus exact (by simp only [Try.results109, resOkL, resOk, Try.ntmps109, List.toList_toArray]; first | decide | (simp only [go_sem]; done) | (simp only [go_sem]; and_intros <;> first | omega | rfl | decide))
      rotate_left; focus exact (by repeat (first | exact Fr.rfl' _ _ | assumption | refine Fr.updk ?_ (by omega) _))
      simp only [resA, resV, Try.results109, go_sem]
      all_goals try (first | exact Co.t2 (.dat rfl) (.dat rfl) | exact Co.t3 (.dat rfl) (.dat rfl) (.dat rfl))
      exact .t2 (co_tm' rfl) (.dat rfl)
    | true =>
      rw [if_pos (by simpa using hv)]
      obtain ⟨p, hp, hpe⟩ := lookB_in hl
      have hT := ih y (by rw [← hpe]; exact hb p hp) (hok y hl (by simpa using hv))
      repeat' (first | refine awp_seq_k fun K hK => ?_ | ((first | refine awp_region_k (by kernel_rfl) fun R hR => ?_ | refine awp_draw mixed (by kernel_rfl) (by kernel_rfl) fun R hR => ?_); simp only [go_sem, e0, e1, e2, q0, q1, q2, hg, hv, Option.isSome_some]) | ((first | (refine hR _ ?_; clear hR R) | refine awp_skip ?_ | refine awp_exit ?_ | refine awp_ret ?_); try simp only [thenA, inBlockA, reduceIte, reduceCtorEq, Nat.reduceEqDiff, if_false, if_true]) | ((first | refine hK _ ?_ | (clear hK K; first | refine hK _ ?_ | (clear hK K; first | refine hK _ ?_ | (clear hK K; first | refine hK _ ?_ | (clear hK K; refine hK _ ?_))))); clear hK K) | refine awp_true rfl rfl ?_ | refine awp_false rfl rfl ?_ | refine awp_block ?_ | ((first | refine CallK.look (enter80) (hT) ?_ (by assumption) (by repeat (first | exact Fr.rfl' _ _ | assumption | refine Fr.updk ?_ (by omega) _)) ?_ | refine CallD.look (enter80) (hT) ?_ (by assumption) (by repeat (first | exact Fr.rfl' _ _ | assumption | refine Fr.updk ?_ (by omega) _)) (by first | assumption | exact List.cons_ne_nil _ _) ?_); (focus first | ((repeat (first | exact trivial | refine ⟨(by first | exact Or.inl rfl | exact Or.inr rfl), ?_⟩)); done) | (simp only [coL, AV.dat, true_or, or_true, AV.d.injEq, go_sem]; done)); simp only [go_sem, e0, e1, e2, q0, q1, q2, hg, hv, Option.isSome_some]) | refine And.intro (by first | ((repeat' first | omega | exact trivial | rfl | assumption | (intro a e; subst e; rfl) | exact map_sz fun a => (by simp only [go_sem]) | refine And.intro ?_ ?_); done) | fail) ?_ | fail)
      (first | refine ret_pure ?_ ?_ ?_ | refine ret_ro ?_ ?_ ?_); focus exact (by simp only [Try.results109, resOkL, resOk, Try.ntmps109, List.toList_toArray]; first | decide | (simp only [go_sem]; done) | (simp only [go_sem]; and_intros <;> first | omega | rfl | decide))
      rotate_left; focus exact (by repeat (first | exact Fr.rfl' _ _ | assumption | refine Fr.updk ?_ (by omega) _))
      simp only [resA, resV, Try.results109, go_sem]
      all_goals try (first | exact Co.t2 (.dat rfl) (.dat rfl) | exact Co.t3 (.dat rfl) (.dat rfl) (.dat rfl))
      all_goals exact .t2 (co_tm' rfl) (.dat rfl)
end
theorem thruOk_at {n : Nat} {b : Bs} {t : Tm} (h : thruOk (n + 1) b t = true) {x : Tm} (hx : x ∈ pre t) : ∀ y, lookB x.v b = some y → x.v > 0 → thruOk n b y = true := by
  intro y hy hv
  rw [thruOk] at h
  have := List.all_eq_true.1 h x hx
  rw [hy] at this
  simpa [hv] using this
set_option maxHeartbeats 1000000 in
set_option maxRecDepth 20000 in
theorem through_tri (u mm : Nm) (b : Bs) (hb : ∀ p ∈ b, p.2.size ≤ 4000000) : ∀ n : Nat, ThruSpec u mm b n := by
  intro n
  induction n with
  | zero => intro x _ h; simp [thruOk] at h
  | succ n ih =>
    intro x hx h
    refine tri_enter_ro Try.func80 rfl Try.ntmps80 (by simp only [List.length_cons, List.length_nil]; omega) fun w0 h0 k hro => ?_
    obtain ⟨n1, e1⟩ := hro.get (u, .cells 122 [.map mm]) (by simp)
    obtain ⟨n2, e2⟩ := hro.get (mm, .map (bsE b)) (by simp)
    have q1 := nmne n1
    have q2 := nmne n2
    have hT := mapped_tri 109 [.ptr (k, 0) 0] (thR (k, 0) u mm b) (thruS (thruT n b) b) (enter109) x hx (fun y hy => through1_tri hb ih (k, 0) y (thruOk_at h hy))
    rw [thruT]
    repeat' (first | refine awp_seq_k fun K hK => ?_ | ((first | refine awp_region_k (by kernel_rfl) fun R hR => ?_ | refine awp_draw mixed (by kernel_rfl) (by kernel_rfl) fun R hR => ?_); simp only [go_sem, e1, e2, q1, q2]) | ((first | (refine hR _ ?_; clear hR R) | refine awp_skip ?_ | refine awp_exit ?_ | refine awp_ret ?_); try simp only [thenA, inBlockA, reduceIte, reduceCtorEq, Nat.reduceEqDiff, if_false, if_true]) | ((first | refine hK _ ?_ | (clear hK K; first | refine hK _ ?_ | (clear hK K; first | refine hK _ ?_ | (clear hK K; first | refine hK _ ?_ | (clear hK K; refine hK _ ?_))))); clear hK K) | refine awp_true rfl rfl ?_ | refine awp_false rfl rfl ?_ | refine awp_block ?_ | ((first | refine CallK.look (enter94) (hT) ?_ (thR_ok (k := k + 1) (Nat.lt_succ_self k) (Nat.lt_succ_of_lt n1) (Nat.lt_succ_of_lt n2) (by simp only [go_sem, ]) (by simp only [go_sem, e1, q1]) (by simp only [go_sem, e2, q2])) (Fr.rfl' _ _) ?_ | refine CallD.look (enter94) (hT) ?_ (thR_ok (k := k + 1) (Nat.lt_succ_self k) (Nat.lt_succ_of_lt n1) (Nat.lt_succ_of_lt n2) (by simp only [go_sem, ]) (by simp only [go_sem, e1, q1]) (by simp only [go_sem, e2, q2])) (Fr.rfl' _ _) (by first | assumption | exact List.cons_ne_nil _ _) ?_); (focus first | ((repeat (first | exact trivial | refine ⟨(by first | exact Or.inl rfl | exact Or.inr rfl), ?_⟩)); done) | (simp only [coL, AV.dat, true_or, or_true, AV.d.injEq, go_sem]; done)); simp only [go_sem, e1, e2, q1, q2]) | refine And.intro (by first | ((repeat' first | omega | exact trivial | rfl | assumption | (intro a e; subst e; rfl) | exact map_sz fun a => (by simp only [go_sem]) | refine And.intro ?_ ?_); done) | fail) ?_ | fail)
    (first | refine ret_pure ?_ ?_ ?_ | refine ret_ro ?_ ?_ ?_); focus exact (by simp only [Try.results80, resOkL, resOk, Try.ntmps80, List.toList_toArray]; first | decide | (simp only [go_sem]; done) | (simp only [go_sem]; and_intros <;> first | omega | rfl | decide))
    rotate_left; focus exact (by repeat (first | exact Fr.rfl' _ _ | assumption | refine Fr.updk ?_ (by omega) _))
    simp only [resA, resV, Try.results80, go_sem]
    all_goals try (first | exact Co.t2 (.dat rfl) (.dat rfl) | exact Co.t3 (.dat rfl) (.dat rfl) (.dat rfl))
    all_goals exact co_tm' rfl
end Go.Proofs.Ytmeekpinkfpnhab
