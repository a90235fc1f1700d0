/- The law TextWrites: its walk. -/
import Derived.Test.YtmeekpinkfpnhabDoorP12
import Derived.Test.YtmeekpinkfpnhabDoorP14
set_option linter.all false
namespace Go.Proofs.YtmeekpinkfpnhabDoor
open Go.RowKit
def s1T : By := [102, 49, 40, 88, 49, 41, 32, 61, 32, 102, 48, 32, 124, 32, 88, 49, 32, 33, 61, 32, 102, 48]
def s2T : By := [102, 49, 40, 88, 51, 41]
def c1T : List Lt := [⟨true, .mk 0 1 [.mk 1 0 []], .mk 0 0 []⟩, ⟨false, .mk 1 0 [], .mk 0 0 []⟩]
def t2T : Tm := .mk 0 1 [.mk 3 0 []]
theorem dd0 : dig 0 = [48] := by
 show Lib.decDigits 0 = _
 rw [Lib.decDigits, dif_pos (by decide)]; rfl
theorem dd1 : dig 1 = [49] := by
 show Lib.decDigits 1 = _
 rw [Lib.decDigits, dif_pos (by decide)]; rfl
theorem dd3 : dig 3 = [51] := by
 show Lib.decDigits 3 = _
 rw [Lib.decDigits, dif_pos (by decide)]; rfl
theorem s1T_eq : clT c1T = s1T := by
 have e1 : tmT (.mk 1 0 []) = [88, 49] := by simp [tmT, dd1]
 have e0 : tmT (.mk 0 0 []) = [102, 48] := by simp [tmT, tmTs, dd0]
 have e2 : tmT (.mk 0 1 [.mk 1 0 []]) = [102, 49, 40, 88, 49, 41] := by simp [tmT, tmTs, dd1, Lib.join_one]
 simp [clT, c1T, ltT, e0, e1, e2, Lib.join_cons, Lib.joinTail, s1T]
theorem s2T_eq : tmT t2T = s2T := by simp [t2T, tmT, tmTs, dd1, dd3, Lib.join_one, s2T]
theorem c1T_ok : clOk [0, 1] c1T = 0 := by rfl
theorem t2T_ok : own [0, 1] t2T = 0 := by rfl
set_option maxRecDepth 20000 in
theorem c1T_rd : rdK s1T 5 5 0 = some (c1T, s1T.length) := by rfl
theorem t2T_rd : rdT s2T 5 0 = some (t2T, s2T.length) := by rfl
set_option maxHeartbeats 4000000 in
set_option maxRecDepth 20000 in
theorem textBegun_tri : Tri Tryd.prog 13 [] (pure' (bA true)) := by
 refine tri_enter Tryd.func13 rfl Tryd.ntmps13 (by simp only [List.length_cons, List.length_nil]; omega) fun w0 h0 k hrd hwr => ?_
 have h1 := textClause_tri [0, 1] c1T (by decide)
 have e1 : clauseAns [0, 1] c1T = (s1T, 0) := by
  unfold clauseAns
  rw [if_neg (by decide), if_neg (by rw [c1T_ok]; decide), s1T_eq]
 rw [e1] at h1
 have h2 := parseClause_ok [0, 1] (by decide) s1T (by decide) 5 5 (by decide) c1T (by decide) c1T_rd c1T_ok
 have h3 := parseTerm_ok [0, 1] (by decide) s2T (by decide) 5 t2T t2T_rd t2T_ok
 have h4 := textTerm_tri [0, 1] t2T
 have e4 : termAns [0, 1] t2T = (s2T, 0) := by
  unfold termAns
  rw [if_neg (by decide), s2T_eq]
 rw [e4] at h4
 have q1 := fn_tri 1 [.mk 1 0 []]
 have q2 := fn_tri 0 []
 have q3 := va_tri 1
 have hs1 : (s1T == [102, 49, 40, 88, 49, 41, 32, 61, 32, 102, 48, 32, 124, 32, 88, 49, 32, 33, 61, 32, 102, 48]) = true := by rfl
 have hs2 : (s2T == [102, 49, 40, 88, 51, 41]) = true := by rfl
 have hc1 : c1T.length = 2 := rfl
 have hi2 : (((2 : Nat) : Int) == 2) = true := rfl
 have hi0 : ((0 : Int) == 0) = true := rfl
 repeat' (first | refine awp_seq_k fun K hK => ?_ | ((first | refine awp_region_k (by kernel_rfl) fun R hR => ?_ | refine awp_draw mixed (by kernel_rfl) (by kernel_rfl) fun R hR => ?_); simp only [go_sem, List.length_map, hs1, hs2, hc1, hi2, hi0, beq_self_eq_true]) | ((first | (refine hR _ ?_; clear hR R) | refine awp_skip ?_ | refine awp_exit ?_ | refine awp_ret ?_); try simp only [thenA, inBlockA, reduceIte, reduceCtorEq, Nat.reduceEqDiff, if_false, if_true]) | ((first | refine hK _ ?_ | (clear hK K; first | refine hK _ ?_ | (clear hK K; first | refine hK _ ?_ | (clear hK K; first | refine hK _ ?_ | (clear hK K; refine hK _ ?_))))); clear hK K) | refine awp_true rfl rfl ?_ | refine awp_false rfl rfl ?_ | refine awp_block ?_ | ((first | refine CallK.pure (enter29) (q1) ?_ ?_ | refine CallD.pure (enter29) (q1) ?_ ?_); (focus first | ((repeat (first | exact trivial | refine ⟨(by first | exact Or.inl rfl | exact Or.inr rfl), ?_⟩)); done) | (simp only [coL, AV.dat, true_or, or_true, AV.d.injEq, go_sem]; done)); simp only [go_sem, List.length_map, hs1, hs2, hc1, hi2, hi0, beq_self_eq_true]) | ((first | refine CallK.pure (enter29) (q2) ?_ ?_ | refine CallD.pure (enter29) (q2) ?_ ?_); (focus first | ((repeat (first | exact trivial | refine ⟨(by first | exact Or.inl rfl | exact Or.inr rfl), ?_⟩)); done) | (simp only [coL, AV.dat, true_or, or_true, AV.d.injEq, go_sem]; done)); simp only [go_sem, List.length_map, hs1, hs2, hc1, hi2, hi0, beq_self_eq_true]) | ((first | refine CallK.pure (enter28) (small_tri) ?_ ?_ | refine CallD.pure (enter28) (small_tri) ?_ ?_ | refine CallK.pure (enter30) (q3) ?_ ?_ | refine CallD.pure (enter30) (q3) ?_ ?_ | refine CallK.pure (enter7) (h1) ?_ ?_ | refine CallD.pure (enter7) (h1) ?_ ?_ | refine CallK.pure (enter15) (h2) ?_ ?_ | refine CallD.pure (enter15) (h2) ?_ ?_ | refine CallK.pure (enter14) (h3) ?_ ?_ | refine CallD.pure (enter14) (h3) ?_ ?_ | refine CallK.pure (enter6) (h4) ?_ ?_ | refine CallD.pure (enter6) (h4) ?_ ?_); (focus first | ((repeat (first | exact trivial | refine ⟨(by first | exact Or.inl rfl | exact Or.inr rfl), ?_⟩)); done) | (simp only [coL, AV.dat, true_or, or_true, AV.d.injEq, go_sem]; done)); simp only [go_sem, List.length_map, hs1, hs2, hc1, hi2, hi0, beq_self_eq_true]) | refine And.intro (by first | ((repeat' first | omega | exact trivial | rfl | assumption | (intro a e; subst e; rfl) | exact map_sz fun a => (by simp only [go_sem]) | refine And.intro ?_ ?_); done) | fail) ?_ | fail)
 (first | refine ret_pure ?_ ?_ ?_ | refine ret_ro ?_ ?_ ?_); focus exact (by simp only [Tryd.results13, resOkL, resOk, Tryd.ntmps13, List.toList_toArray]; first | decide | (simp only [go_sem]; done) | (simp only [go_sem]; and_intros <;> first | omega | rfl | decide))
 rotate_left; focus exact (by repeat (first | exact Fr.rfl' _ _ | assumption | refine Fr.updk ?_ (by omega) _))
 simp only [resA, resV, Tryd.results13, go_sem]
 all_goals try (first | exact Co.t2 (.dat rfl) (.dat rfl) | exact Co.t3 (.dat rfl) (.dat rfl) (.dat rfl))
 exact .dat rfl
set_option maxHeartbeats 8000000 in
set_option maxRecDepth 20000 in
theorem textWrites_law (g : List Int) (t : Tm) (c : List Lt) (hcl : c.length ≤ 4000000) : Tri Tryd.prog 3 [.d (sgDV g), .d (tmDV t), .d (clDV c)] (pure' (bA true)) := by
 refine tri_enter Tryd.func3 rfl Tryd.ntmps3 (by simp only [List.length_cons, List.length_nil]; omega) fun w0 h0 k hrd hwr => ?_
 have h1 := textTerm_tri g t
 have h2 := textClause_tri g c hcl
 have h3 := checkTerms_tri g [t]
 have h4 := checkSig_tri g
 have h5 := checkClause_tri g c hcl
 have h6 := textBegun_tri
 have b0 : ((bs []).toList == (bs []).toList) = true := by simp
 have i0 : ((0 : Int) == 0) = true := rfl
 cases hs : sigOk g == 0 with
 | true =>
  have hs' : sigOk g = 0 := by simpa using hs
  rw [hs'] at h4
  cases ha : allOk g [t] == 0 with
  | true =>
   have ha' : allOk g [t] = 0 := by simpa using ha
   obtain ⟨_, ho⟩ := allOk_own ha'
   have ho := ho t (by simp)
   have hsz : t.size ≤ 120 := by rw [← parts_len]; exact own_parts ho
   have e1 : termAns g t = (tmT t, 0) := by unfold termAns; rw [if_neg (by simp [ha'])]
   rw [e1] at h1
   rw [ha'] at h3
   have h7 := text_tri t (smT_own hs' ho) (by omega)
   cases hc : clOk g c == 0 with
   | true =>
    have hc' : clOk g c = 0 := by simpa using hc
    have e2 : clauseAns g c = (clT c, 0) := by unfold clauseAns; rw [if_neg (by simp [hs']), if_neg (by simp [hc'])]
    rw [e2] at h2
    rw [hc'] at h5
    obtain ⟨k1, k2⟩ := smT_lits hs' hc'
    have h8 := clauseText_tri c k1 k2
    repeat' (first | refine awp_seq_k fun K hK => ?_ | ((first | refine awp_region_k (by kernel_rfl) fun R hR => ?_ | refine awp_draw mixed (by kernel_rfl) (by kernel_rfl) fun R hR => ?_); simp only [go_sem, i0, beq_self_eq_true]) | ((first | (refine hR _ ?_; clear hR R) | refine awp_skip ?_ | refine awp_exit ?_ | refine awp_ret ?_); try simp only [thenA, inBlockA, reduceIte, reduceCtorEq, Nat.reduceEqDiff, if_false, if_true]) | ((first | refine hK _ ?_ | (clear hK K; first | refine hK _ ?_ | (clear hK K; first | refine hK _ ?_ | (clear hK K; first | refine hK _ ?_ | (clear hK K; refine hK _ ?_))))); clear hK K) | refine awp_true rfl rfl ?_ | refine awp_false rfl rfl ?_ | refine awp_block ?_ | ((first | refine CallK.pure (enter6) (h1) ?_ ?_ | refine CallD.pure (enter6) (h1) ?_ ?_ | refine CallK.pure (enter7) (h2) ?_ ?_ | refine CallD.pure (enter7) (h2) ?_ ?_ | refine CallK.pure (enter8) (h3) ?_ ?_ | refine CallD.pure (enter8) (h3) ?_ ?_ | refine CallK.pure (enter9) (h4) ?_ ?_ | refine CallD.pure (enter9) (h4) ?_ ?_ | refine CallK.pure (enter10) (h5) ?_ ?_ | refine CallD.pure (enter10) (h5) ?_ ?_ | refine CallK.pure (enter11) (h7) ?_ ?_ | refine CallD.pure (enter11) (h7) ?_ ?_ | refine CallK.pure (enter12) (h8) ?_ ?_ | refine CallD.pure (enter12) (h8) ?_ ?_ | refine CallK.pure (enter13) (h6) ?_ ?_ | refine CallD.pure (enter13) (h6) ?_ ?_); (focus first | ((repeat (first | exact trivial | refine ⟨(by first | exact Or.inl rfl | exact Or.inr rfl), ?_⟩)); done) | (simp only [coL, AV.dat, true_or, or_true, AV.d.injEq, go_sem]; done)); simp only [go_sem, i0, beq_self_eq_true]) | refine And.intro (by first | ((repeat' first | omega | exact trivial | rfl | assumption | (intro a e; subst e; rfl) | exact map_sz fun a => (by simp only [go_sem]) | refine And.intro ?_ ?_); done) | fail) ?_ | fail)
    (first | refine ret_pure ?_ ?_ ?_ | refine ret_ro ?_ ?_ ?_); focus exact (by simp only [Tryd.results3, resOkL, resOk, Tryd.ntmps3, List.toList_toArray]; first | decide | (simp only [go_sem]; done) | (simp only [go_sem]; and_intros <;> first | omega | rfl | decide))
    rotate_left; focus exact (by repeat (first | exact Fr.rfl' _ _ | assumption | refine Fr.updk ?_ (by omega) _))
    simp only [resA, resV, Tryd.results3, go_sem]
    all_goals try (first | exact Co.t2 (.dat rfl) (.dat rfl) | exact Co.t3 (.dat rfl) (.dat rfl) (.dat rfl))
    exact .dat rfl
   | false =>
    have hc' : clOk g c ≠ 0 := by simpa using hc
    have e2 : clauseAns g c = ([], clOk g c) := by unfold clauseAns; rw [if_neg (by simp [hs']), if_pos hc']
    rw [e2] at h2
    repeat' (first | refine awp_seq_k fun K hK => ?_ | ((first | refine awp_region_k (by kernel_rfl) fun R hR => ?_ | refine awp_draw mixed (by kernel_rfl) (by kernel_rfl) fun R hR => ?_); simp only [go_sem, i0, hc, beq_self_eq_true]) | ((first | (refine hR _ ?_; clear hR R) | refine awp_skip ?_ | refine awp_exit ?_ | refine awp_ret ?_); try simp only [thenA, inBlockA, reduceIte, reduceCtorEq, Nat.reduceEqDiff, if_false, if_true]) | ((first | refine hK _ ?_ | (clear hK K; first | refine hK _ ?_ | (clear hK K; first | refine hK _ ?_ | (clear hK K; first | refine hK _ ?_ | (clear hK K; refine hK _ ?_))))); clear hK K) | refine awp_true rfl rfl ?_ | refine awp_false rfl rfl ?_ | refine awp_block ?_ | ((first | refine CallK.pure (enter6) (h1) ?_ ?_ | refine CallD.pure (enter6) (h1) ?_ ?_ | refine CallK.pure (enter7) (h2) ?_ ?_ | refine CallD.pure (enter7) (h2) ?_ ?_ | refine CallK.pure (enter8) (h3) ?_ ?_ | refine CallD.pure (enter8) (h3) ?_ ?_ | refine CallK.pure (enter9) (h4) ?_ ?_ | refine CallD.pure (enter9) (h4) ?_ ?_ | refine CallK.pure (enter10) (h5) ?_ ?_ | refine CallD.pure (enter10) (h5) ?_ ?_ | refine CallK.pure (enter11) (h7) ?_ ?_ | refine CallD.pure (enter11) (h7) ?_ ?_ | refine CallK.pure (enter13) (h6) ?_ ?_ | refine CallD.pure (enter13) (h6) ?_ ?_); (focus first | ((repeat (first | exact trivial | refine ⟨(by first | exact Or.inl rfl | exact Or.inr rfl), ?_⟩)); done) | (simp only [coL, AV.dat, true_or, or_true, AV.d.injEq, go_sem]; done)); simp only [go_sem, i0, hc, beq_self_eq_true]) | refine And.intro (by first | ((repeat' first | omega | exact trivial | rfl | assumption | (intro a e; subst e; rfl) | exact map_sz fun a => (by simp only [go_sem]) | refine And.intro ?_ ?_); done) | fail) ?_ | fail)
    (first | refine ret_pure ?_ ?_ ?_ | refine ret_ro ?_ ?_ ?_); focus exact (by simp only [Tryd.results3, resOkL, resOk, Tryd.ntmps3, List.toList_toArray]; first | decide | (simp only [go_sem]; done) | (simp only [go_sem]; and_intros <;> first | omega | rfl | decide))
    rotate_left; focus exact (by repeat (first | exact Fr.rfl' _ _ | assumption | refine Fr.updk ?_ (by omega) _))
    simp only [resA, resV, Tryd.results3, go_sem]
    all_goals try (first | exact Co.t2 (.dat rfl) (.dat rfl) | exact Co.t3 (.dat rfl) (.dat rfl) (.dat rfl))
    exact .dat rfl
  | false =>
   have ha' : allOk g [t] ≠ 0 := by simpa using ha
   have e1 : termAns g t = ([], allOk g [t]) := by unfold termAns; rw [if_pos ha']
   rw [e1] at h1
   cases hc : clOk g c == 0 with
   | true =>
    have hc' : clOk g c = 0 := by simpa using hc
    have e2 : clauseAns g c = (clT c, 0) := by unfold clauseAns; rw [if_neg (by simp [hs']), if_neg (by simp [hc'])]
    rw [e2] at h2
    rw [hc'] at h5
    obtain ⟨k1, k2⟩ := smT_lits hs' hc'
    have h8 := clauseText_tri c k1 k2
    repeat' (first | refine awp_seq_k fun K hK => ?_ | ((first | refine awp_region_k (by kernel_rfl) fun R hR => ?_ | refine awp_draw mixed (by kernel_rfl) (by kernel_rfl) fun R hR => ?_); simp only [go_sem, i0, ha, beq_self_eq_true]) | ((first | (refine hR _ ?_; clear hR R) | refine awp_skip ?_ | refine awp_exit ?_ | refine awp_ret ?_); try simp only [thenA, inBlockA, reduceIte, reduceCtorEq, Nat.reduceEqDiff, if_false, if_true]) | ((first | refine hK _ ?_ | (clear hK K; first | refine hK _ ?_ | (clear hK K; first | refine hK _ ?_ | (clear hK K; first | refine hK _ ?_ | (clear hK K; refine hK _ ?_))))); clear hK K) | refine awp_true rfl rfl ?_ | refine awp_false rfl rfl ?_ | refine awp_block ?_ | ((first | refine CallK.pure (enter6) (h1) ?_ ?_ | refine CallD.pure (enter6) (h1) ?_ ?_ | refine CallK.pure (enter7) (h2) ?_ ?_ | refine CallD.pure (enter7) (h2) ?_ ?_ | refine CallK.pure (enter8) (h3) ?_ ?_ | refine CallD.pure (enter8) (h3) ?_ ?_ | refine CallK.pure (enter9) (h4) ?_ ?_ | refine CallD.pure (enter9) (h4) ?_ ?_ | refine CallK.pure (enter10) (h5) ?_ ?_ | refine CallD.pure (enter10) (h5) ?_ ?_ | refine CallK.pure (enter12) (h8) ?_ ?_ | refine CallD.pure (enter12) (h8) ?_ ?_ | refine CallK.pure (enter13) (h6) ?_ ?_ | refine CallD.pure (enter13) (h6) ?_ ?_); (focus first | ((repeat (first | exact trivial | refine ⟨(by first | exact Or.inl rfl | exact Or.inr rfl), ?_⟩)); done) | (simp only [coL, AV.dat, true_or, or_true, AV.d.injEq, go_sem]; done)); simp only [go_sem, i0, ha, beq_self_eq_true]) | refine And.intro (by first | ((repeat' first | omega | exact trivial | rfl | assumption | (intro a e; subst e; rfl) | exact map_sz fun a => (by simp only [go_sem]) | refine And.intro ?_ ?_); done) | fail) ?_ | fail)
    (first | refine ret_pure ?_ ?_ ?_ | refine ret_ro ?_ ?_ ?_); focus exact (by simp only [Tryd.results3, resOkL, resOk, Tryd.ntmps3, List.toList_toArray]; first | decide | (simp only [go_sem]; done) | (simp only [go_sem]; and_intros <;> first | omega | rfl | decide))
    rotate_left; focus exact (by repeat (first | exact Fr.rfl' _ _ | assumption | refine Fr.updk ?_ (by omega) _))
    simp only [resA, resV, Tryd.results3, go_sem]
    all_goals try (first | exact Co.t2 (.dat rfl) (.dat rfl) | exact Co.t3 (.dat rfl) (.dat rfl) (.dat rfl))
    exact .dat rfl
   | false =>
    have hc' : clOk g c ≠ 0 := by simpa using hc
    have e2 : clauseAns g c = ([], clOk g c) := by unfold clauseAns; rw [if_neg (by simp [hs']), if_pos hc']
    rw [e2] at h2
    repeat' (first | refine awp_seq_k fun K hK => ?_ | ((first | refine awp_region_k (by kernel_rfl) fun R hR => ?_ | refine awp_draw mixed (by kernel_rfl) (by kernel_rfl) fun R hR => ?_); simp only [go_sem, i0, ha, hc, beq_self_eq_true]) | ((first | (refine hR _ ?_; clear hR R) | refine awp_skip ?_ | refine awp_exit ?_ | refine awp_ret ?_); try simp only [thenA, inBlockA, reduceIte, reduceCtorEq, Nat.reduceEqDiff, if_false, if_true]) | ((first | refine hK _ ?_ | (clear hK K; first | refine hK _ ?_ | (clear hK K; first | refine hK _ ?_ | (clear hK K; first | refine hK _ ?_ | (clear hK K; refine hK _ ?_))))); clear hK K) | refine awp_true rfl rfl ?_ | refine awp_false rfl rfl ?_ | refine awp_block ?_ | ((first | refine CallK.pure (enter6) (h1) ?_ ?_ | refine CallD.pure (enter6) (h1) ?_ ?_ | refine CallK.pure (enter7) (h2) ?_ ?_ | refine CallD.pure (enter7) (h2) ?_ ?_ | refine CallK.pure (enter8) (h3) ?_ ?_ | refine CallD.pure (enter8) (h3) ?_ ?_ | refine CallK.pure (enter9) (h4) ?_ ?_ | refine CallD.pure (enter9) (h4) ?_ ?_ | refine CallK.pure (enter10) (h5) ?_ ?_ | refine CallD.pure (enter10) (h5) ?_ ?_ | refine CallK.pure (enter13) (h6) ?_ ?_ | refine CallD.pure (enter13) (h6) ?_ ?_); (focus first | ((repeat (first | exact trivial | refine ⟨(by first | exact Or.inl rfl | exact Or.inr rfl), ?_⟩)); done) | (simp only [coL, AV.dat, true_or, or_true, AV.d.injEq, go_sem]; done)); simp only [go_sem, i0, ha, hc, beq_self_eq_true]) | refine And.intro (by first | ((repeat' first | omega | exact trivial | rfl | assumption | (intro a e; subst e; rfl) | exact map_sz fun a => (by simp only [go_sem]) | refine And.intro ?_ ?_); done) | fail) ?_ | fail)
    (first | refine ret_pure ?_ ?_ ?_ | refine ret_ro ?_ ?_ ?_); focus exact (by simp only [Tryd.results3, resOkL, resOk, Tryd.ntmps3, List.toList_toArray]; first | decide | (simp only [go_sem]; done) | (simp only [go_sem]; and_intros <;> first | omega | rfl | decide))
    rotate_left; focus exact (by repeat (first | exact Fr.rfl' _ _ | assumption | refine Fr.updk ?_ (by omega) _))
    simp only [resA, resV, Tryd.results3, go_sem]
    all_goals try (first | exact Co.t2 (.dat rfl) (.dat rfl) | exact Co.t3 (.dat rfl) (.dat rfl) (.dat rfl))
    exact .dat rfl
 | false =>
  have hs' : sigOk g ≠ 0 := by simpa using hs
  have ha' : allOk g [t] = sigOk g := by unfold allOk; rw [if_pos hs']
  rw [ha'] at h3
  have e1 : termAns g t = ([], sigOk g) := by unfold termAns; rw [ha', if_pos hs']
  rw [e1] at h1
  have e2 : clauseAns g c = ([], sigOk g) := by unfold clauseAns; rw [if_pos hs']
  rw [e2] at h2
  repeat' (first | refine awp_seq_k fun K hK => ?_ | ((first | refine awp_region_k (by kernel_rfl) fun R hR => ?_ | refine awp_draw mixed (by kernel_rfl) (by kernel_rfl) fun R hR => ?_); simp only [go_sem, i0, hs, beq_self_eq_true]) | ((first | (refine hR _ ?_; clear hR R) | refine awp_skip ?_ | refine awp_exit ?_ | refine awp_ret ?_); try simp only [thenA, inBlockA, reduceIte, reduceCtorEq, Nat.reduceEqDiff, if_false, if_true]) | ((first | refine hK _ ?_ | (clear hK K; first | refine hK _ ?_ | (clear hK K; first | refine hK _ ?_ | (clear hK K; first | refine hK _ ?_ | (clear hK K; refine hK _ ?_))))); clear hK K) | refine awp_true rfl rfl ?_ | refine awp_false rfl rfl ?_ | refine awp_block ?_ | ((first | refine CallK.pure (enter6) (h1) ?_ ?_ | refine CallD.pure (enter6) (h1) ?_ ?_ | refine CallK.pure (enter7) (h2) ?_ ?_ | refine CallD.pure (enter7) (h2) ?_ ?_ | refine CallK.pure (enter8) (h3) ?_ ?_ | refine CallD.pure (enter8) (h3) ?_ ?_ | refine CallK.pure (enter9) (h4) ?_ ?_ | refine CallD.pure (enter9) (h4) ?_ ?_ | refine CallK.pure (enter13) (h6) ?_ ?_ | refine CallD.pure (enter13) (h6) ?_ ?_); (focus first | ((repeat (first | exact trivial | refine ⟨(by first | exact Or.inl rfl | exact Or.inr rfl), ?_⟩)); done) | (simp only [coL, AV.dat, true_or, or_true, AV.d.injEq, go_sem]; done)); simp only [go_sem, i0, hs, beq_self_eq_true]) | refine And.intro (by first | ((repeat' first | omega | exact trivial | rfl | assumption | (intro a e; subst e; rfl) | exact map_sz fun a => (by simp only [go_sem]) | refine And.intro ?_ ?_); done) | fail) ?_ | fail)
  (first | refine ret_pure ?_ ?_ ?_ | refine ret_ro ?_ ?_ ?_); focus exact (by simp only [Tryd.results3, resOkL, resOk, Tryd.ntmps3, List.toList_toArray]; first | decide | (simp only [go_sem]; done) | (simp only [go_sem]; and_intros <;> first | omega | rfl | decide))
  rotate_left; focus exact (by repeat (first | exact Fr.rfl' _ _ | assumption | refine Fr.updk ?_ (by omega) _))
  simp only [resA, resV, Tryd.results3, go_sem]
  all_goals try (first | exact Co.t2 (.dat rfl) (.dat rfl) | exact Co.t3 (.dat rfl) (.dat rfl) (.dat rfl))
  exact .dat rfl
end Go.Proofs.YtmeekpinkfpnhabDoor
