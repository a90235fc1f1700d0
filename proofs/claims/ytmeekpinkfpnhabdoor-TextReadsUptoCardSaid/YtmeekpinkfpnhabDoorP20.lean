/- The document's reader: what stands, ReadTerm. -/
import Derived.Test.YtmeekpinkfpnhabDoorP12
import Derived.Test.YtmeekpinkfpnhabDoorP16
import Derived.Test.YtmeekpinkfpnhabDoorP19
set_option linter.all false
namespace Go.Proofs.YtmeekpinkfpnhabDoor
open Go.RowKit
abbrev tm0 : Tm := .mk 0 0 []
def ptAns (g : List Int) (l : By) : Tm × Int :=
 if sigOk g ≠ 0 then (tm0, sigOk g) else if l.length > 3000 then (tm0, 2) else match rdT l (l.length + 1) 0 with
  | some (t, j) => if j = l.length then (if own g t = 0 then (t, 0) else (tm0, own g t)) else (tm0, 1)
  | none => (tm0, 1)
def pcAns (g : List Int) (l : By) : List Lt × Int :=
 if sigOk g ≠ 0 then ([], sigOk g) else if l.length > 3000 then ([], 2) else match rdK l (l.length + 1) (l.length + 1) 0 with
  | some (c, j) => if j = l.length then (if clOk g c = 0 then (c, 0) else ([], clOk g c)) else ([], 1)
  | none => ([], 1)
set_option maxHeartbeats 1000000 in
set_option maxRecDepth 20000 in
theorem pterm1_boom (l : By) (hl : l.length ≤ 3000) (h : rdT l (l.length + 1) 0 = none) (tb rb : Nm) : TriP Tryd.prog CH 32 [.ptr rb 0, .ptr tb 0] rb (rdO l 0) := by
 have hT := term_boom l (by omega) (l.length + 1) rb 0 (Nat.zero_le _) (by omega) h
 refine triP_enter Tryd.func32 rfl Tryd.ntmps32 (by simp only [List.length_cons, List.length_nil]; omega) fun w0 h0 k hh hbk => ?_
 rw [rdO_eq] at hh
 have qb := nmne hbk
 repeat' (first | (refine awp_boom (ch := CH) (id := 0) 1 (by kernel_rfl) rfl fun R hR => ?_; simp only [go_sem, List.take_succ_cons, List.take_zero, qb]) | refine awp_seq_k fun K hK => ?_ | ((first | refine awp_region_k (by kernel_rfl) fun R hR => ?_ | refine awp_draw mixed (by kernel_rfl) (by kernel_rfl) fun R hR => ?_); simp only [go_sem, qb]) | ((first | (refine hR _ ?_; clear hR R) | refine awp_skip ?_ | refine awp_exit ?_ | refine awp_ret ?_); try simp only [thenA, inBlockA, reduceIte, reduceCtorEq, Nat.reduceEqDiff, if_false, if_true]) | ((first | refine hK _ ?_ | (clear hK K; first | refine hK _ ?_ | (clear hK K; first | refine hK _ ?_ | (clear hK K; first | refine hK _ ?_ | (clear hK K; refine hK _ ?_))))); clear hK K) | refine awp_true rfl rfl ?_ | refine awp_false rfl rfl ?_ | refine awp_block ?_ | refine And.intro (by first | ((repeat' first | omega | exact trivial | rfl | assumption | (intro a e; subst e; rfl) | exact map_sz fun a => (by simp only [go_sem]) | refine And.intro ?_ ?_); done) | fail) ?_ | fail)
 refine BoomK.mk1 (enter33) (hT) ?_ ?_ ?_
 focus first | ((repeat (first | exact trivial | refine ⟨(by first | exact Or.inl rfl | exact Or.inr rfl), ?_⟩)); done) | (simp only [coL, AV.dat, true_or, or_true, AV.d.injEq, go_sem, hh, qb, rdO]; done)
 focus first | (simp only [go_sem, hh, qb, rdO]; done) | (simp only [go_sem, hh, qb, rdO]; rfl) | assumption
 simp only [thenA, inBlockA, panQ, reduceIte, reduceCtorEq, true_and]
 repeat (first | exact FrN.rfl' _ _ _ | assumption | refine FrN.updk ?_ (by first | omega | fail) _ | refine FrN.updn ?_ (by first | (simp; done) | fail) _ | refine FrN.stH ?_ _)
set_option maxHeartbeats 1000000 in
set_option maxRecDepth 20000 in
theorem pclause1_boom (l : By) (hl : l.length ≤ 3000) (h : rdK l (l.length + 1) (l.length + 1) 0 = none) (tb rb : Nm) : TriP Tryd.prog CH 35 [.ptr rb 0, .ptr tb 0] rb (rdO l 0) := by
 have hT := clause_boom l (by omega) (l.length + 1) (l.length + 1) (by omega) rb 0 (Nat.zero_le _) (by omega) (by omega) h
 refine triP_enter Tryd.func35 rfl Tryd.ntmps35 (by simp only [List.length_cons, List.length_nil]; omega) fun w0 h0 k hh hbk => ?_
 rw [rdO_eq] at hh
 have qb := nmne hbk
 repeat' (first | (refine awp_boom (ch := CH) (id := 0) 1 (by kernel_rfl) rfl fun R hR => ?_; simp only [go_sem, List.take_succ_cons, List.take_zero, qb]) | refine awp_seq_k fun K hK => ?_ | ((first | refine awp_region_k (by kernel_rfl) fun R hR => ?_ | refine awp_draw mixed (by kernel_rfl) (by kernel_rfl) fun R hR => ?_); simp only [go_sem, qb]) | ((first | (refine hR _ ?_; clear hR R) | refine awp_skip ?_ | refine awp_exit ?_ | refine awp_ret ?_); try simp only [thenA, inBlockA, reduceIte, reduceCtorEq, Nat.reduceEqDiff, if_false, if_true]) | ((first | refine hK _ ?_ | (clear hK K; first | refine hK _ ?_ | (clear hK K; first | refine hK _ ?_ | (clear hK K; first | refine hK _ ?_ | (clear hK K; refine hK _ ?_))))); clear hK K) | refine awp_true rfl rfl ?_ | refine awp_false rfl rfl ?_ | refine awp_block ?_ | refine And.intro (by first | ((repeat' first | omega | exact trivial | rfl | assumption | (intro a e; subst e; rfl) | exact map_sz fun a => (by simp only [go_sem]) | refine And.intro ?_ ?_); done) | fail) ?_ | fail)
 refine BoomK.mk1 (enter36) (hT) ?_ ?_ ?_
 focus first | ((repeat (first | exact trivial | refine ⟨(by first | exact Or.inl rfl | exact Or.inr rfl), ?_⟩)); done) | (simp only [coL, AV.dat, true_or, or_true, AV.d.injEq, go_sem, hh, qb, rdO]; done)
 focus first | (simp only [go_sem, hh, qb, rdO]; done) | (simp only [go_sem, hh, qb, rdO]; rfl) | assumption
 simp only [thenA, inBlockA, panQ, reduceIte, reduceCtorEq, true_and]
 repeat (first | exact FrN.rfl' _ _ _ | assumption | refine FrN.updk ?_ (by first | omega | fail) _ | refine FrN.updn ?_ (by first | (simp; done) | fail) _ | refine FrN.stH ?_ _)
set_option maxHeartbeats 1000000 in
set_option maxRecDepth 20000 in
theorem parseTerm_bad (g : List Int) (l : By) (e : Int) (he : e ≠ 0) (hREAD : ∀ tb : Nm, Tri Tryd.prog 31 [.d (sgDV g), sA l, .fn (.func 32) [] [.ptr tb 0]] (pure' (iA e))) : Tri Tryd.prog 14 [.d (sgDV g), sA l] (pure' (.tup [.d (tmDV tm0), iA e])) := by
 refine tri_enter Tryd.func14 rfl Tryd.ntmps14 (by simp only [List.length_cons, List.length_nil]; omega) fun w0 h0 k hrd hwr => ?_
 have h1 := hREAD (k + 1, 0)
 have n1 : (e == 0) = false := by simpa using he
 have n2 : (e != 0) = true := by simpa using he
 repeat' (first | refine awp_seq_k fun K hK => ?_ | ((first | refine awp_region_k (by kernel_rfl) fun R hR => ?_ | refine awp_draw mixed (by kernel_rfl) (by kernel_rfl) fun R hR => ?_); simp only [go_sem, n1, n2]) | ((first | (refine hR _ ?_; clear hR R) | refine awp_skip ?_ | refine awp_exit ?_ | refine awp_ret ?_); try simp only [thenA, inBlockA, reduceIte, reduceCtorEq, Nat.reduceEqDiff, if_false, if_true]) | ((first | refine hK _ ?_ | (clear hK K; first | refine hK _ ?_ | (clear hK K; first | refine hK _ ?_ | (clear hK K; first | refine hK _ ?_ | (clear hK K; refine hK _ ?_))))); clear hK K) | refine awp_true rfl rfl ?_ | refine awp_false rfl rfl ?_ | refine awp_block ?_ | ((first | refine CallK.pure (enter31) (h1) ?_ ?_ | refine CallD.pure (enter31) (h1) ?_ ?_); (focus first | ((repeat (first | exact trivial | refine ⟨(by first | exact Or.inl rfl | exact Or.inr rfl), ?_⟩)); done) | (simp only [coL, AV.dat, true_or, or_true, AV.d.injEq, go_sem]; done)); simp only [go_sem, n1, n2]) | refine And.intro (by first | ((repeat' first | omega | exact trivial | rfl | assumption | (intro a e; subst e; rfl) | exact map_sz fun a => (by simp only [go_sem]) | refine And.intro ?_ ?_); done) | fail) ?_ | fail)
 (first | refine ret_pure ?_ ?_ ?_ | refine ret_ro ?_ ?_ ?_); focus exact (by simp only [Tryd.results14, resOkL, resOk, Tryd.ntmps14, List.toList_toArray]; first | decide | (simp only [go_sem]; done) | (simp only [go_sem]; and_intros <;> first | omega | rfl | decide))
 rotate_left; focus exact (by repeat (first | exact Fr.rfl' _ _ | assumption | refine Fr.updk ?_ (by omega) _ | refine Fr.stH ?_ _ (by intro n hn; simp only [List.mem_cons, List.not_mem_nil, or_false] at hn; subst hn; simp only; omega)))
 simp only [resA, resV, Tryd.results14, go_sem]
 all_goals try (first | exact Co.t2 (.dat rfl) (.dat rfl) | exact Co.t3 (.dat rfl) (.dat rfl) (.dat rfl))
 all_goals exact Co.t2 (co_tm rfl) (.dat rfl)
set_option maxHeartbeats 1000000 in
set_option maxRecDepth 20000 in
theorem parseClause_bad (g : List Int) (l : By) (e : Int) (he : e ≠ 0) (hREAD : ∀ tb : Nm, Tri Tryd.prog 31 [.d (sgDV g), sA l, .fn (.func 35) [] [.ptr tb 0]] (pure' (iA e))) : Tri Tryd.prog 15 [.d (sgDV g), sA l] (pure' (.tup [.d (clDV []), iA e])) := by
 refine tri_enter Tryd.func15 rfl Tryd.ntmps15 (by simp only [List.length_cons, List.length_nil]; omega) fun w0 h0 k hrd hwr => ?_
 have h1 := hREAD (k + 1, 0)
 have n1 : (e == 0) = false := by simpa using he
 have n2 : (e != 0) = true := by simpa using he
 repeat' (first | refine awp_seq_k fun K hK => ?_ | ((first | refine awp_region_k (by kernel_rfl) fun R hR => ?_ | refine awp_draw mixed (by kernel_rfl) (by kernel_rfl) fun R hR => ?_); simp only [go_sem, n1, n2]) | ((first | (refine hR _ ?_; clear hR R) | refine awp_skip ?_ | refine awp_exit ?_ | refine awp_ret ?_); try simp only [thenA, inBlockA, reduceIte, reduceCtorEq, Nat.reduceEqDiff, if_false, if_true]) | ((first | refine hK _ ?_ | (clear hK K; first | refine hK _ ?_ | (clear hK K; first | refine hK _ ?_ | (clear hK K; first | refine hK _ ?_ | (clear hK K; refine hK _ ?_))))); clear hK K) | refine awp_true rfl rfl ?_ | refine awp_false rfl rfl ?_ | refine awp_block ?_ | ((first | refine CallK.pure (enter31) (h1) ?_ ?_ | refine CallD.pure (enter31) (h1) ?_ ?_); (focus first | ((repeat (first | exact trivial | refine ⟨(by first | exact Or.inl rfl | exact Or.inr rfl), ?_⟩)); done) | (simp only [coL, AV.dat, true_or, or_true, AV.d.injEq, go_sem]; done)); simp only [go_sem, n1, n2]) | refine And.intro (by first | ((repeat' first | omega | exact trivial | rfl | assumption | (intro a e; subst e; rfl) | exact map_sz fun a => (by simp only [go_sem]) | refine And.intro ?_ ?_); done) | fail) ?_ | fail)
 (first | refine ret_pure ?_ ?_ ?_ | refine ret_ro ?_ ?_ ?_); focus exact (by simp only [Tryd.results15, resOkL, resOk, Tryd.ntmps15, List.toList_toArray]; first | decide | (simp only [go_sem]; done) | (simp only [go_sem]; and_intros <;> first | omega | rfl | decide))
 rotate_left; focus exact (by repeat (first | exact Fr.rfl' _ _ | assumption | refine Fr.updk ?_ (by omega) _ | refine Fr.stH ?_ _ (by intro n hn; simp only [List.mem_cons, List.not_mem_nil, or_false] at hn; subst hn; simp only; omega)))
 simp only [resA, resV, Tryd.results15, go_sem]
 all_goals try (first | exact Co.t2 (.dat rfl) (.dat rfl) | exact Co.t3 (.dat rfl) (.dat rfl) (.dat rfl))
set_option maxHeartbeats 2000000 in
set_option maxRecDepth 20000 in
theorem parseTerm_rest (g : List Int) (hg : sigOk g = 0) (l : By) (hl : l.length ≤ 3000) (f : Nat) (t : Tm) (j : Nat) (h : rdT l f 0 = some (t, j)) (hj : j ≠ l.length) : Tri Tryd.prog 14 [.d (sgDV g), sA l] (pure' (.tup [.d (tmDV tm0), iA 1])) := by
 refine tri_enter Tryd.func14 rfl Tryd.ntmps14 (by simp only [List.length_cons, List.length_nil]; omega) fun w0 h0 k hrd hwr => ?_
 have hREAD := read_rest g hg l hl 32 (enter32) [.ptr (k + 1, 0) 0] j hj (k + 1, 0) tmZ (tmO t) (by simp [Ob.names, namesL, AV.names]) fun rb hne => pterm1_tri l (by omega) f t j h rb (k + 1, 0) hne
 have n1 : ((1 : Int) == 0) = false := by decide
 have n2 : ((1 : Int) != 0) = true := by decide
 repeat' (first | refine awp_seq_k fun K hK => ?_ | ((first | refine awp_region_k (by kernel_rfl) fun R hR => ?_ | refine awp_draw mixed (by kernel_rfl) (by kernel_rfl) fun R hR => ?_); simp only [go_sem, n1, n2]) | ((first | (refine hR _ ?_; clear hR R) | refine awp_skip ?_ | refine awp_exit ?_ | refine awp_ret ?_); try simp only [thenA, inBlockA, reduceIte, reduceCtorEq, Nat.reduceEqDiff, if_false, if_true]) | ((first | refine hK _ ?_ | (clear hK K; first | refine hK _ ?_ | (clear hK K; first | refine hK _ ?_ | (clear hK K; first | refine hK _ ?_ | (clear hK K; refine hK _ ?_))))); clear hK K) | refine awp_true rfl rfl ?_ | refine awp_false rfl rfl ?_ | refine awp_block ?_ | ((first | refine CallK.chg (enter31) (hREAD) ?_ (ag1 (k := k + 1 + 1 + 1) (by simp only; omega) (by first | (simp only [go_sem, ]; done) | (simp only [go_sem, ]; rfl) | fail)) (Fr.rfl' _ _) ?_ | refine CallD.chg (enter31) (hREAD) ?_ (ag1 (k := k + 1 + 1 + 1) (by simp only; omega) (by first | (simp only [go_sem, ]; done) | (simp only [go_sem, ]; rfl) | fail)) (Fr.rfl' _ _) (by first | assumption | exact List.cons_ne_nil _ _) ?_); (focus first | ((repeat (first | exact trivial | refine ⟨(by first | exact Or.inl rfl | exact Or.inr rfl), ?_⟩)); done) | (simp only [coL, AV.dat, true_or, or_true, AV.d.injEq, go_sem]; done)); simp only [go_sem, n1, n2]) | refine And.intro (by first | ((repeat' first | omega | exact trivial | rfl | assumption | (intro a e; subst e; rfl) | exact map_sz fun a => (by simp only [go_sem]) | refine And.intro ?_ ?_); done) | fail) ?_ | fail)
 (first | refine ret_pure ?_ ?_ ?_ | refine ret_ro ?_ ?_ ?_); focus exact (by simp only [Tryd.results14, resOkL, resOk, Tryd.ntmps14, List.toList_toArray]; first | decide | (simp only [go_sem]; done) | (simp only [go_sem]; and_intros <;> first | omega | rfl | decide))
 rotate_left; focus exact (by repeat (first | exact Fr.rfl' _ _ | assumption | refine Fr.updk ?_ (by omega) _ | refine Fr.stH ?_ _ (by intro n hn; simp only [List.mem_cons, List.not_mem_nil, or_false] at hn; subst hn; simp only; omega)))
 simp only [resA, resV, Tryd.results14, go_sem]
 all_goals try (first | exact Co.t2 (.dat rfl) (.dat rfl) | exact Co.t3 (.dat rfl) (.dat rfl) (.dat rfl))
 all_goals exact Co.t2 (co_tm rfl) (.dat rfl)
set_option maxHeartbeats 2000000 in
set_option maxRecDepth 20000 in
theorem parseClause_rest (g : List Int) (hg : sigOk g = 0) (l : By) (hl : l.length ≤ 3000) (f Q : Nat) (hQ : Q ≤ 4000000) (c : List Lt) (j : Nat) (h : rdK l f Q 0 = some (c, j)) (hj : j ≠ l.length) : Tri Tryd.prog 15 [.d (sgDV g), sA l] (pure' (.tup [.d (clDV []), iA 1])) := by
 refine tri_enter Tryd.func15 rfl Tryd.ntmps15 (by simp only [List.length_cons, List.length_nil]; omega) fun w0 h0 k hrd hwr => ?_
 have hREAD := read_rest g hg l hl 35 (enter35) [.ptr (k + 1, 0) 0] j hj (k + 1, 0) clZ (clO1 c) (by simp [Ob.names, namesL, AV.names]) fun rb hne => pclause1_tri l (by omega) f Q hQ c j h rb (k + 1, 0) hne
 have n1 : ((1 : Int) == 0) = false := by decide
 have n2 : ((1 : Int) != 0) = true := by decide
 repeat' (first | refine awp_seq_k fun K hK => ?_ | ((first | refine awp_region_k (by kernel_rfl) fun R hR => ?_ | refine awp_draw mixed (by kernel_rfl) (by kernel_rfl) fun R hR => ?_); simp only [go_sem, n1, n2]) | ((first | (refine hR _ ?_; clear hR R) | refine awp_skip ?_ | refine awp_exit ?_ | refine awp_ret ?_); try simp only [thenA, inBlockA, reduceIte, reduceCtorEq, Nat.reduceEqDiff, if_false, if_true]) | ((first | refine hK _ ?_ | (clear hK K; first | refine hK _ ?_ | (clear hK K; first | refine hK _ ?_ | (clear hK K; first | refine hK _ ?_ | (clear hK K; refine hK _ ?_))))); clear hK K) | refine awp_true rfl rfl ?_ | refine awp_false rfl rfl ?_ | refine awp_block ?_ | ((first | refine CallK.chg (enter31) (hREAD) ?_ (ag1 (k := k + 1 + 1 + 1) (by simp only; omega) (by first | (simp only [go_sem, ]; done) | (simp only [go_sem, ]; rfl) | fail)) (Fr.rfl' _ _) ?_ | refine CallD.chg (enter31) (hREAD) ?_ (ag1 (k := k + 1 + 1 + 1) (by simp only; omega) (by first | (simp only [go_sem, ]; done) | (simp only [go_sem, ]; rfl) | fail)) (Fr.rfl' _ _) (by first | assumption | exact List.cons_ne_nil _ _) ?_); (focus first | ((repeat (first | exact trivial | refine ⟨(by first | exact Or.inl rfl | exact Or.inr rfl), ?_⟩)); done) | (simp only [coL, AV.dat, true_or, or_true, AV.d.injEq, go_sem]; done)); simp only [go_sem, n1, n2]) | refine And.intro (by first | ((repeat' first | omega | exact trivial | rfl | assumption | (intro a e; subst e; rfl) | exact map_sz fun a => (by simp only [go_sem]) | refine And.intro ?_ ?_); done) | fail) ?_ | fail)
 (first | refine ret_pure ?_ ?_ ?_ | refine ret_ro ?_ ?_ ?_); focus exact (by simp only [Tryd.results15, resOkL, resOk, Tryd.ntmps15, List.toList_toArray]; first | decide | (simp only [go_sem]; done) | (simp only [go_sem]; and_intros <;> first | omega | rfl | decide))
 rotate_left; focus exact (by repeat (first | exact Fr.rfl' _ _ | assumption | refine Fr.updk ?_ (by omega) _ | refine Fr.stH ?_ _ (by intro n hn; simp only [List.mem_cons, List.not_mem_nil, or_false] at hn; subst hn; simp only; omega)))
 simp only [resA, resV, Tryd.results15, go_sem]
 all_goals try (first | exact Co.t2 (.dat rfl) (.dat rfl) | exact Co.t3 (.dat rfl) (.dat rfl) (.dat rfl))
set_option maxHeartbeats 2000000 in
set_option maxRecDepth 20000 in
theorem parseTerm_own (g : List Int) (hg : sigOk g = 0) (l : By) (hl : l.length ≤ 3000) (f : Nat) (t : Tm) (h : rdT l f 0 = some (t, l.length)) (ho : own g t ≠ 0) : Tri Tryd.prog 14 [.d (sgDV g), sA l] (pure' (.tup [.d (tmDV tm0), iA (own g t)])) := by
 refine tri_enter Tryd.func14 rfl Tryd.ntmps14 (by simp only [List.length_cons, List.length_nil]; omega) fun w0 h0 k hrd hwr => ?_
 have hREAD := read_tri g hg l hl 32 (enter32) [.ptr (k + 1, 0) 0] (k + 1, 0) tmZ (tmO t) (by simp [Ob.names, namesL, AV.names]) fun rb hne => pterm1_tri l (by omega) f t l.length h rb (k + 1, 0) hne
 have hw := own_tri g t
 have n2 : (own g t != 0) = true := by simpa using ho
 repeat' (first | refine awp_seq_k fun K hK => ?_ | ((first | refine awp_region_k (by kernel_rfl) fun R hR => ?_ | refine awp_draw mixed (by kernel_rfl) (by kernel_rfl) fun R hR => ?_); simp only [go_sem, beq_self_eq_true, n2]) | ((first | (refine hR _ ?_; clear hR R) | refine awp_skip ?_ | refine awp_exit ?_ | refine awp_ret ?_); try simp only [thenA, inBlockA, reduceIte, reduceCtorEq, Nat.reduceEqDiff, if_false, if_true]) | ((first | refine hK _ ?_ | (clear hK K; first | refine hK _ ?_ | (clear hK K; first | refine hK _ ?_ | (clear hK K; first | refine hK _ ?_ | (clear hK K; refine hK _ ?_))))); clear hK K) | refine awp_true rfl rfl ?_ | refine awp_false rfl rfl ?_ | refine awp_block ?_ | ((first | refine CallK.chg (enter31) (hREAD) ?_ (ag1 (k := k + 1 + 1 + 1) (by simp only; omega) (by first | (simp only [go_sem, ]; done) | (simp only [go_sem, ]; rfl) | fail)) (Fr.rfl' _ _) ?_ | refine CallD.chg (enter31) (hREAD) ?_ (ag1 (k := k + 1 + 1 + 1) (by simp only; omega) (by first | (simp only [go_sem, ]; done) | (simp only [go_sem, ]; rfl) | fail)) (Fr.rfl' _ _) (by first | assumption | exact List.cons_ne_nil _ _) ?_ | refine CallK.pure (enter34) (hw) ?_ ?_ | refine CallD.pure (enter34) (hw) ?_ ?_); (focus first | ((repeat (first | exact trivial | refine ⟨(by first | exact Or.inl rfl | exact Or.inr rfl), ?_⟩)); done) | (simp only [coL, AV.dat, true_or, or_true, AV.d.injEq, go_sem]; done)); simp only [go_sem, beq_self_eq_true, n2]) | refine And.intro (by first | ((repeat' first | omega | exact trivial | rfl | assumption | (intro a e; subst e; rfl) | exact map_sz fun a => (by simp only [go_sem]) | refine And.intro ?_ ?_); done) | fail) ?_ | fail)
 (first | refine ret_pure ?_ ?_ ?_ | refine ret_ro ?_ ?_ ?_); focus exact (by simp only [Tryd.results14, resOkL, resOk, Tryd.ntmps14, List.toList_toArray]; first | decide | (simp only [go_sem]; done) | (simp only [go_sem]; and_intros <;> first | omega | rfl | decide))
 rotate_left; focus exact (by repeat (first | exact Fr.rfl' _ _ | assumption | refine Fr.updk ?_ (by omega) _ | refine Fr.stH ?_ _ (by intro n hn; simp only [List.mem_cons, List.not_mem_nil, or_false] at hn; subst hn; simp only; omega)))
 simp only [resA, resV, Tryd.results14, go_sem]
 all_goals try (first | exact Co.t2 (.dat rfl) (.dat rfl) | exact Co.t3 (.dat rfl) (.dat rfl) (.dat rfl))
 all_goals exact Co.t2 (co_tm rfl) (.dat rfl)
set_option maxHeartbeats 2000000 in
set_option maxRecDepth 20000 in
theorem parseClause_own (g : List Int) (hg : sigOk g = 0) (l : By) (hl : l.length ≤ 3000) (f Q : Nat) (hQ : Q ≤ 4000000) (c : List Lt) (hcl : c.length ≤ 4000000) (h : rdK l f Q 0 = some (c, l.length)) (ho : clOk g c ≠ 0) : Tri Tryd.prog 15 [.d (sgDV g), sA l] (pure' (.tup [.d (clDV []), iA (clOk g c)])) := by
 refine tri_enter Tryd.func15 rfl Tryd.ntmps15 (by simp only [List.length_cons, List.length_nil]; omega) fun w0 h0 k hrd hwr => ?_
 have hREAD := read_tri g hg l hl 35 (enter35) [.ptr (k + 1, 0) 0] (k + 1, 0) clZ (clO1 c) (by simp [Ob.names, namesL, AV.names]) fun rb hne => pclause1_tri l (by omega) f Q hQ c l.length h rb (k + 1, 0) hne
 have hw := right_tri g c hcl
 have n2 : (clOk g c != 0) = true := by simpa using ho
 repeat' (first | refine awp_seq_k fun K hK => ?_ | ((first | refine awp_region_k (by kernel_rfl) fun R hR => ?_ | refine awp_draw mixed (by kernel_rfl) (by kernel_rfl) fun R hR => ?_); simp only [go_sem, beq_self_eq_true, n2]) | ((first | (refine hR _ ?_; clear hR R) | refine awp_skip ?_ | refine awp_exit ?_ | refine awp_ret ?_); try simp only [thenA, inBlockA, reduceIte, reduceCtorEq, Nat.reduceEqDiff, if_false, if_true]) | ((first | refine hK _ ?_ | (clear hK K; first | refine hK _ ?_ | (clear hK K; first | refine hK _ ?_ | (clear hK K; first | refine hK _ ?_ | (clear hK K; refine hK _ ?_))))); clear hK K) | refine awp_true rfl rfl ?_ | refine awp_false rfl rfl ?_ | refine awp_block ?_ | ((first | refine CallK.chg (enter31) (hREAD) ?_ (ag1 (k := k + 1 + 1 + 1) (by simp only; omega) (by first | (simp only [go_sem, ]; done) | (simp only [go_sem, ]; rfl) | fail)) (Fr.rfl' _ _) ?_ | refine CallD.chg (enter31) (hREAD) ?_ (ag1 (k := k + 1 + 1 + 1) (by simp only; omega) (by first | (simp only [go_sem, ]; done) | (simp only [go_sem, ]; rfl) | fail)) (Fr.rfl' _ _) (by first | assumption | exact List.cons_ne_nil _ _) ?_ | refine CallK.pure (enter23) (hw) ?_ ?_ | refine CallD.pure (enter23) (hw) ?_ ?_); (focus first | ((repeat (first | exact trivial | refine ⟨(by first | exact Or.inl rfl | exact Or.inr rfl), ?_⟩)); done) | (simp only [coL, AV.dat, true_or, or_true, AV.d.injEq, go_sem]; done)); simp only [go_sem, beq_self_eq_true, n2]) | refine And.intro (by first | ((repeat' first | omega | exact trivial | rfl | assumption | (intro a e; subst e; rfl) | exact map_sz fun a => (by simp only [go_sem]) | refine And.intro ?_ ?_); done) | fail) ?_ | fail)
 (first | refine ret_pure ?_ ?_ ?_ | refine ret_ro ?_ ?_ ?_); focus exact (by simp only [Tryd.results15, resOkL, resOk, Tryd.ntmps15, List.toList_toArray]; first | decide | (simp only [go_sem]; done) | (simp only [go_sem]; and_intros <;> first | omega | rfl | decide))
 rotate_left; focus exact (by repeat (first | exact Fr.rfl' _ _ | assumption | refine Fr.updk ?_ (by omega) _ | refine Fr.stH ?_ _ (by intro n hn; simp only [List.mem_cons, List.not_mem_nil, or_false] at hn; subst hn; simp only; omega)))
 simp only [resA, resV, Tryd.results15, go_sem]
 all_goals try (first | exact Co.t2 (.dat rfl) (.dat rfl) | exact Co.t3 (.dat rfl) (.dat rfl) (.dat rfl))
theorem rdC_len {l : By} {f : Nat} : ∀ (q i : Nat) (acc c : List Lt) (j : Nat), rdC l f q i acc = some (c, j) → c.length ≤ acc.length + q
 | 0, _, _, _, _, h => by cases h
 | q + 1, i, acc, c, j, h => by
  rw [rdC] at h
  split at h
  ·cases h
  ·split at h
   ·have := rdC_len q _ _ _ _ h
    simp at this; omega
   ·cases h; simp
theorem rdK_len {l : By} {f q i : Nat} {c : List Lt} {j : Nat} (h : rdK l f q i = some (c, j)) : c.length ≤ q := by
 unfold rdK at h
 split at h
 ·cases h; simp
 ·simpa using rdC_len q i [] c j h
theorem parseTerm_tri (g : List Int) (l : By) : Tri Tryd.prog 14 [.d (sgDV g), sA l] (pure' (.tup [.d (tmDV (ptAns g l).1), iA (ptAns g l).2])) := by
 unfold ptAns
 by_cases hg : sigOk g = 0
 ·rw [if_neg (by simp [hg])]
  by_cases hl : l.length > 3000
  ·rw [if_pos hl]
   exact parseTerm_bad g l 2 (by decide) fun tb => read_long g hg l (by omega) _
  ·rw [if_neg hl]
   cases h : rdT l (l.length + 1) 0 with
   | none => exact parseTerm_bad g l 1 (by decide) fun tb => read_boom g hg l (by omega) _ (enter32) [.ptr tb 0] fun rb => pterm1_boom l (by omega) h tb rb
   | some p =>
    obtain ⟨t, j⟩ := p
    simp only
    by_cases hj : j = l.length
    ·subst hj
     rw [if_pos rfl]
     by_cases ho : own g t = 0
     ·rw [if_pos ho]; exact parseTerm_ok g hg l (by omega) _ t h ho
     ·rw [if_neg ho]; exact parseTerm_own g hg l (by omega) _ t h ho
    ·rw [if_neg hj]; exact parseTerm_rest g hg l (by omega) _ t j h hj
 ·rw [if_pos hg]
  exact parseTerm_bad g l _ hg fun tb => read_sig g _ rfl hg l _
theorem parseClause_tri (g : List Int) (l : By) : Tri Tryd.prog 15 [.d (sgDV g), sA l] (pure' (.tup [.d (clDV (pcAns g l).1), iA (pcAns g l).2])) := by
 unfold pcAns
 by_cases hg : sigOk g = 0
 ·rw [if_neg (by simp [hg])]
  by_cases hl : l.length > 3000
  ·rw [if_pos hl]
   exact parseClause_bad g l 2 (by decide) fun tb => read_long g hg l (by omega) _
  ·rw [if_neg hl]
   cases h : rdK l (l.length + 1) (l.length + 1) 0 with
   | none => exact parseClause_bad g l 1 (by decide) fun tb => read_boom g hg l (by omega) _ (enter35) [.ptr tb 0] fun rb => pclause1_boom l (by omega) h tb rb
   | some p =>
    obtain ⟨c, j⟩ := p
    have hcl := rdK_len h
    simp only
    by_cases hj : j = l.length
    ·subst hj
     rw [if_pos rfl]
     by_cases ho : clOk g c = 0
     ·rw [if_pos ho]; exact parseClause_ok g hg l (by omega) _ _ (by omega) c (by omega) h ho
     ·rw [if_neg ho]; exact parseClause_own g hg l (by omega) _ _ (by omega) c (by omega) h ho
    ·rw [if_neg hj]; exact parseClause_rest g hg l (by omega) _ _ (by omega) c j h hj
 ·rw [if_pos hg]
  exact parseClause_bad g l _ hg fun tb => read_sig g _ rfl hg l _
theorem hasAt_take (l p : By) (i : Nat) : hasAt l i p = ((l.drop i).take p.length == p) := by
 unfold hasAt Lib.hasPrefix
 rw [Bool.eq_iff_iff, List.isPrefixOf_iff_prefix, beq_iff_eq, List.prefix_iff_eq_take]
 exact eq_comm
set_option maxHeartbeats 1000000 in
set_option maxRecDepth 20000 in
theorem stands_ref (l p : By) (i : Nat) (hl : l.length ≤ 4000000) (hp : p.length ≤ 100) (hi : i ≤ l.length) : Tri Tryd.prog 38 [sA l, iA i, sA p] (pure' (bA (hasAt l i p))) := by
 refine tri_enter Tryd.func38 rfl Tryd.ntmps38 (by simp only [List.length_cons, List.length_nil]; omega) fun w0 h0 k hrd hwr => ?_
 have e1 : ((i : Int) + (p.length : Int)) = ((i + p.length : Nat) : Int) := by omega
 rcases Nat.lt_or_ge l.length (i + p.length) with hlt | hge
 ·have h1 : decide (((i + p.length : Nat) : Int) ≤ (l.length : Int)) = false := by simp; omega
  have hb : hasAt l i p = false := by
   cases h : hasAt l i p with
   | false => rfl
   | true => have := hasAt_le h hi; omega
  rw [hb]
  repeat' (first | refine awp_seq_k fun K hK => ?_ | ((first | refine awp_region_k (by kernel_rfl) fun R hR => ?_ | refine awp_draw mixed (by kernel_rfl) (by kernel_rfl) fun R hR => ?_); simp only [go_sem, e1, h1]) | ((first | (refine hR _ ?_; clear hR R) | refine awp_skip ?_ | refine awp_exit ?_ | refine awp_ret ?_); try simp only [thenA, inBlockA, reduceIte, reduceCtorEq, Nat.reduceEqDiff, if_false, if_true]) | ((first | refine hK _ ?_ | (clear hK K; first | refine hK _ ?_ | (clear hK K; first | refine hK _ ?_ | (clear hK K; first | refine hK _ ?_ | (clear hK K; refine hK _ ?_))))); clear hK K) | refine awp_true rfl rfl ?_ | refine awp_false rfl rfl ?_ | refine awp_block ?_ | refine And.intro (by first | ((repeat' first | omega | exact trivial | rfl | assumption | (intro a e; subst e; rfl) | exact map_sz fun a => (by simp only [go_sem]) | refine And.intro ?_ ?_); done) | fail) ?_ | fail)
  (first | refine ret_pure ?_ ?_ ?_ | refine ret_ro ?_ ?_ ?_); focus exact (by simp only [Tryd.results38, resOkL, resOk, Tryd.ntmps38, List.toList_toArray]; first | decide | (simp only [go_sem]; done) | (simp only [go_sem]; and_intros <;> first | omega | rfl | decide))
  rotate_left; focus exact (by repeat (first | exact Fr.rfl' _ _ | assumption | refine Fr.updk ?_ (by omega) _ | refine Fr.stH ?_ _ (by intro n hn; simp only [List.mem_cons, List.not_mem_nil, or_false] at hn; subst hn; simp only; omega)))
  simp only [resA, resV, Tryd.results38, go_sem]
  all_goals try (first | exact Co.t2 (.dat rfl) (.dat rfl) | exact Co.t3 (.dat rfl) (.dat rfl) (.dat rfl))
  exact .dat rfl
 ·have h1 : decide (((i + p.length : Nat) : Int) ≤ (l.length : Int)) = true := by simp; omega
  have h2 : ((i + p.length : Nat) : Int) ≤ (l.length : Int) := by omega
  have hex : (bs l).extract i (i + p.length) = bs ((l.drop i).take p.length) := by rw [bs_ext, Nat.add_sub_cancel_left]
  rw [hasAt_take]
  repeat' (first | refine awp_seq_k fun K hK => ?_ | ((first | refine awp_region_k (by kernel_rfl) fun R hR => ?_ | refine awp_draw mixed (by kernel_rfl) (by kernel_rfl) fun R hR => ?_); simp only [go_sem, e1, h1, h2, hex, Int.toNat_natCast]) | ((first | (refine hR _ ?_; clear hR R) | refine awp_skip ?_ | refine awp_exit ?_ | refine awp_ret ?_); try simp only [thenA, inBlockA, reduceIte, reduceCtorEq, Nat.reduceEqDiff, if_false, if_true]) | ((first | refine hK _ ?_ | (clear hK K; first | refine hK _ ?_ | (clear hK K; first | refine hK _ ?_ | (clear hK K; first | refine hK _ ?_ | (clear hK K; refine hK _ ?_))))); clear hK K) | refine awp_true rfl rfl ?_ | refine awp_false rfl rfl ?_ | refine awp_block ?_ | refine And.intro (by first | ((repeat' first | omega | exact trivial | rfl | assumption | (intro a e; subst e; rfl) | exact map_sz fun a => (by simp only [go_sem]) | refine And.intro ?_ ?_); done) | fail) ?_ | fail)
  (first | refine ret_pure ?_ ?_ ?_ | refine ret_ro ?_ ?_ ?_); focus exact (by simp only [Tryd.results38, resOkL, resOk, Tryd.ntmps38, List.toList_toArray]; first | decide | (simp only [go_sem]; done) | (simp only [go_sem]; and_intros <;> first | omega | rfl | decide))
  rotate_left; focus exact (by repeat (first | exact Fr.rfl' _ _ | assumption | refine Fr.updk ?_ (by omega) _ | refine Fr.stH ?_ _ (by intro n hn; simp only [List.mem_cons, List.not_mem_nil, or_false] at hn; subst hn; simp only; omega)))
  simp only [resA, resV, Tryd.results38, go_sem]
  all_goals try (first | exact Co.t2 (.dat rfl) (.dat rfl) | exact Co.t3 (.dat rfl) (.dat rfl) (.dat rfl))
  exact .dat rfl
end Go.Proofs.YtmeekpinkfpnhabDoor
