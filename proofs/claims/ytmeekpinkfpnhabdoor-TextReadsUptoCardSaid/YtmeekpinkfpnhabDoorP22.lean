/- The law TextReads: its walk. -/
import Derived.Test.YtmeekpinkfpnhabDoorP13
import Derived.Test.YtmeekpinkfpnhabDoorP21
set_option linter.all false
namespace Go.Proofs.YtmeekpinkfpnhabDoor
open Go.RowKit
theorem pcAns_len (g : List Int) (l : By) : (pcAns g l).1.length ≤ 4000000 := by
 unfold pcAns
 split
 ·simp
 ·split
  ·simp
  ·rename_i hl
   split
   ·rename_i c j h
    have := rdK_len h
    split
    ·split
     ·simp only; omega
     ·simp
    ·simp
   ·simp
set_option maxHeartbeats 8000000 in
set_option maxRecDepth 20000 in
theorem textReads_law (g : List Int) (l : By) (hl : l.length ≤ 4000000) : Tri Tryd.prog 4 [.d (sgDV g), sA l] (pure' (bA true)) := by
 have h1 := parseTerm_tri g l
 have h2 := parseClause_tri g l
 have h3 := readTerm_ref g l hl
 have h4 := readClause_ref g l hl
 have h5 := textBegun_tri
 have hcl := pcAns_len g l
 refine tri_enter Tryd.func4 rfl Tryd.ntmps4 (by simp only [List.length_cons, List.length_nil]; omega) fun w0 h0 k hrd hwr => ?_
 generalize ptAns g l = A at *
 generalize pcAns g l = B at *
 obtain ⟨t, e⟩ := A
 obtain ⟨c, f⟩ := B
 have h6 := sameR_tri t t
 rw [(same_iff t t).2 rfl] at h6
 have h7 := sameClause_tri c c hcl
 rw [sameC_rfl] at h7
 have eta : tmDV (.mk t.v t.f t.us) = tmDV t := by rw [t.eta]
 repeat' (first | refine awp_seq_k fun K hK => ?_ | ((first | refine awp_region_k (by kernel_rfl) fun R hR => ?_ | refine awp_draw mixed (by kernel_rfl) (by kernel_rfl) fun R hR => ?_); simp only [go_sem, beq_self_eq_true, eta]) | ((first | (refine hR _ ?_; clear hR R) | refine awp_skip ?_ | refine awp_exit ?_ | refine awp_ret ?_); try simp only [thenA, inBlockA, reduceIte, reduceCtorEq, Nat.reduceEqDiff, if_false, if_true]) | ((first | refine hK _ ?_ | (clear hK K; first | refine hK _ ?_ | (clear hK K; first | refine hK _ ?_ | (clear hK K; first | refine hK _ ?_ | (clear hK K; refine hK _ ?_))))); clear hK K) | refine awp_true rfl rfl ?_ | refine awp_false rfl rfl ?_ | refine awp_block ?_ | ((first | refine CallK.pure (enter14) (h1) ?_ ?_ | refine CallD.pure (enter14) (h1) ?_ ?_ | refine CallK.pure (enter15) (h2) ?_ ?_ | refine CallD.pure (enter15) (h2) ?_ ?_ | refine CallK.pure (enter16) (h3) ?_ ?_ | refine CallD.pure (enter16) (h3) ?_ ?_ | refine CallK.pure (enter17) (h4) ?_ ?_ | refine CallD.pure (enter17) (h4) ?_ ?_ | refine CallK.pure (enter13) (h5) ?_ ?_ | refine CallD.pure (enter13) (h5) ?_ ?_ | refine CallK.pure (enter18) (h6) ?_ ?_ | refine CallD.pure (enter18) (h6) ?_ ?_ | refine CallK.pure (enter19) (h7) ?_ ?_ | refine CallD.pure (enter19) (h7) ?_ ?_); (focus first | ((repeat (first | exact trivial | refine ⟨(by first | exact Or.inl rfl | exact Or.inr rfl), ?_⟩)); done) | (simp only [coL, AV.dat, true_or, or_true, AV.d.injEq, go_sem]; done)); simp only [go_sem, beq_self_eq_true, eta]) | refine And.intro (by first | ((repeat' first | omega | exact trivial | rfl | assumption | (intro a e; subst e; rfl) | exact map_sz fun a => (by simp only [go_sem]) | refine And.intro ?_ ?_); done) | fail) ?_ | fail)
 (first | refine ret_pure ?_ ?_ ?_ | refine ret_ro ?_ ?_ ?_); focus exact (by simp only [Tryd.results4, resOkL, resOk, Tryd.ntmps4, List.toList_toArray]; first | decide | (simp only [go_sem]; done) | (simp only [go_sem]; and_intros <;> first | omega | rfl | decide))
 rotate_left; focus exact (by repeat (first | exact Fr.rfl' _ _ | assumption | refine Fr.updk ?_ (by omega) _))
 simp only [resA, resV, Tryd.results4, go_sem]
 all_goals try (first | exact Co.t2 (.dat rfl) (.dat rfl) | exact Co.t3 (.dat rfl) (.dat rfl) (.dat rfl))
 exact .dat rfl
end Go.Proofs.YtmeekpinkfpnhabDoor
