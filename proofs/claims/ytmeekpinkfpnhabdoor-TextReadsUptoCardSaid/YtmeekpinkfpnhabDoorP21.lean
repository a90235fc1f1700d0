/- The document's reader: ReadTerm, ReadClause. -/
import Derived.Test.YtmeekpinkfpnhabDoorP20
set_option linter.all false
namespace Go.Proofs.YtmeekpinkfpnhabDoor
open Go.RowKit
theorem ta_of (l : By) (hl : l.length ≤ 4000000) (i : Nat) (hi : i ≤ l.length) (t : Tm) (j : Nat) (h : rdT l (l.length + 1) i = some (t, j)) : Tri Tryd.prog 37 [sA l, iA i] (pure' (.tup [.d (tmDV t), iA j])) := by
 have := termAt_tri l hl (l.length + 1) i hi (by omega)
 unfold taF at this
 rwa [h] at this
theorem ta_no (l : By) (hl : l.length ≤ 4000000) (i : Nat) (hi : i ≤ l.length) (h : rdT l (l.length + 1) i = none) : Tri Tryd.prog 37 [sA l, iA i] (pure' (.tup [.d (tmDV (.mk 0 0 [])), iA (-1)])) := by
 have := termAt_tri l hl (l.length + 1) i hi (by omega)
 unfold taF at this
 rwa [h] at this
set_option maxHeartbeats 4000000 in
set_option maxRecDepth 20000 in
theorem readTerm_ref (g : List Int) (l : By) (hL : l.length ≤ 4000000) : Tri Tryd.prog 16 [.d (sgDV g), sA l] (pure' (.tup [.d (tmDV (ptAns g l).1), iA (ptAns g l).2])) := by
 have h1 := checkSig_tri g
 unfold ptAns
 by_cases hg : sigOk g = 0
 ·rw [if_neg (by simp [hg])]
  rw [hg] at h1
  by_cases hl : l.length > 3000
  ·rw [if_pos hl]
   refine tri_enter Tryd.func16 rfl Tryd.ntmps16 (by simp only [List.length_cons, List.length_nil]; omega) fun w0 h0 k hrd hwr => ?_
   have hl3 : decide (((l.length : Nat) : Int) > 3000) = true := by simp; omega
   repeat' (first | refine awp_seq_k fun K hK => ?_ | ((first | refine awp_region_k (by kernel_rfl) fun R hR => ?_ | refine awp_draw mixed (by kernel_rfl) (by kernel_rfl) fun R hR => ?_); simp only [go_sem, bne_self_eq_false, hl3]) | ((first | (refine hR _ ?_; clear hR R) | refine awp_skip ?_ | refine awp_exit ?_ | refine awp_ret ?_); try simp only [thenA, inBlockA, reduceIte, reduceCtorEq, Nat.reduceEqDiff, if_false, if_true]) | ((first | refine hK _ ?_ | (clear hK K; first | refine hK _ ?_ | (clear hK K; first | refine hK _ ?_ | (clear hK K; first | refine hK _ ?_ | (clear hK K; refine hK _ ?_))))); clear hK K) | refine awp_true rfl rfl ?_ | refine awp_false rfl rfl ?_ | refine awp_block ?_ | ((first | refine CallK.pure (enter9) (h1) ?_ ?_ | refine CallD.pure (enter9) (h1) ?_ ?_); (focus first | ((repeat (first | exact trivial | refine ⟨(by first | exact Or.inl rfl | exact Or.inr rfl), ?_⟩)); done) | (simp only [coL, AV.dat, true_or, or_true, AV.d.injEq, go_sem]; done)); simp only [go_sem, bne_self_eq_false, hl3]) | refine And.intro (by first | ((repeat' first | omega | exact trivial | rfl | assumption | (intro a e; subst e; rfl) | exact map_sz fun a => (by simp only [go_sem]) | refine And.intro ?_ ?_); done) | fail) ?_ | fail)
   (first | refine ret_pure ?_ ?_ ?_ | refine ret_ro ?_ ?_ ?_); focus exact (by simp only [Tryd.results16, resOkL, resOk, Tryd.ntmps16, List.toList_toArray]; first | decide | (simp only [go_sem]; done) | (simp only [go_sem]; and_intros <;> first | omega | rfl | decide))
   rotate_left; focus exact (by repeat (first | exact Fr.rfl' _ _ | assumption | refine Fr.updk ?_ (by omega) _ | refine Fr.stH ?_ _ (by intro n hn; simp only [List.mem_cons, List.not_mem_nil, or_false] at hn; subst hn; simp only; omega)))
   simp only [resA, resV, Tryd.results16, go_sem]
   all_goals try (first | exact Co.t2 (.dat rfl) (.dat rfl) | exact Co.t3 (.dat rfl) (.dat rfl) (.dat rfl))
   exact Co.t2 (co_tm rfl) (.dat rfl)
  ·rw [if_neg hl]
   have hl3 : decide (((l.length : Nat) : Int) > 3000) = false := by simp; omega
   have e0 : (iA 0) = iA ((0 : Nat) : Int) := rfl
   cases h : rdT l (l.length + 1) 0 with
   | none =>
    have hT := ta_no l hL 0 (Nat.zero_le _) h
    have hj : ((-1 : Int) != ((l.length : Nat) : Int)) = true := by rw [bne_iff_ne]; omega
    refine tri_enter Tryd.func16 rfl Tryd.ntmps16 (by simp only [List.length_cons, List.length_nil]; omega) fun w0 h0 k hrd hwr => ?_
    repeat' (first | refine awp_seq_k fun K hK => ?_ | ((first | refine awp_region_k (by kernel_rfl) fun R hR => ?_ | refine awp_draw mixed (by kernel_rfl) (by kernel_rfl) fun R hR => ?_); simp only [go_sem, bne_self_eq_false, hl3, hj]) | ((first | (refine hR _ ?_; clear hR R) | refine awp_skip ?_ | refine awp_exit ?_ | refine awp_ret ?_); try simp only [thenA, inBlockA, reduceIte, reduceCtorEq, Nat.reduceEqDiff, if_false, if_true]) | ((first | refine hK _ ?_ | (clear hK K; first | refine hK _ ?_ | (clear hK K; first | refine hK _ ?_ | (clear hK K; first | refine hK _ ?_ | (clear hK K; refine hK _ ?_))))); clear hK K) | refine awp_true rfl rfl ?_ | refine awp_false rfl rfl ?_ | refine awp_block ?_ | ((first | refine CallK.pure (enter9) (h1) ?_ ?_ | refine CallD.pure (enter9) (h1) ?_ ?_ | refine CallK.pure (enter37) (hT) ?_ ?_ | refine CallD.pure (enter37) (hT) ?_ ?_); (focus first | ((repeat (first | exact trivial | refine ⟨(by first | exact Or.inl rfl | exact Or.inr rfl), ?_⟩)); done) | (simp only [coL, AV.dat, true_or, or_true, AV.d.injEq, go_sem]; done)); simp only [go_sem, bne_self_eq_false, hl3, hj]) | refine And.intro (by first | ((repeat' first | omega | exact trivial | rfl | assumption | (intro a e; subst e; rfl) | exact map_sz fun a => (by simp only [go_sem]) | refine And.intro ?_ ?_); done) | fail) ?_ | fail)
    (first | refine ret_pure ?_ ?_ ?_ | refine ret_ro ?_ ?_ ?_); focus exact (by simp only [Tryd.results16, resOkL, resOk, Tryd.ntmps16, List.toList_toArray]; first | decide | (simp only [go_sem]; done) | (simp only [go_sem]; and_intros <;> first | omega | rfl | decide))
    rotate_left; focus exact (by repeat (first | exact Fr.rfl' _ _ | assumption | refine Fr.updk ?_ (by omega) _ | refine Fr.stH ?_ _ (by intro n hn; simp only [List.mem_cons, List.not_mem_nil, or_false] at hn; subst hn; simp only; omega)))
    simp only [resA, resV, Tryd.results16, go_sem]
    all_goals try (first | exact Co.t2 (.dat rfl) (.dat rfl) | exact Co.t3 (.dat rfl) (.dat rfl) (.dat rfl))
    exact Co.t2 (co_tm rfl) (.dat rfl)
   | some p =>
    obtain ⟨t, j⟩ := p
    have hT := ta_of l hL 0 (Nat.zero_le _) t j h
    simp only
    by_cases hj : j = l.length
    ·have hj' : ((j : Int) != ((l.length : Nat) : Int)) = false := by simp; omega
     rw [if_pos hj]
     have hw := checkTerm_tri g t
     by_cases ho : own g t = 0
     ·rw [if_pos ho]
      rw [ho] at hw
      refine tri_enter Tryd.func16 rfl Tryd.ntmps16 (by simp only [List.length_cons, List.length_nil]; omega) fun w0 h0 k hrd hwr => ?_
      repeat' (first | refine awp_seq_k fun K hK => ?_ | ((first | refine awp_region_k (by kernel_rfl) fun R hR => ?_ | refine awp_draw mixed (by kernel_rfl) (by kernel_rfl) fun R hR => ?_); simp only [go_sem, bne_self_eq_false, hl3, hj']) | ((first | (refine hR _ ?_; clear hR R) | refine awp_skip ?_ | refine awp_exit ?_ | refine awp_ret ?_); try simp only [thenA, inBlockA, reduceIte, reduceCtorEq, Nat.reduceEqDiff, if_false, if_true]) | ((first | refine hK _ ?_ | (clear hK K; first | refine hK _ ?_ | (clear hK K; first | refine hK _ ?_ | (clear hK K; first | refine hK _ ?_ | (clear hK K; refine hK _ ?_))))); clear hK K) | refine awp_true rfl rfl ?_ | refine awp_false rfl rfl ?_ | refine awp_block ?_ | ((first | refine CallK.pure (enter9) (h1) ?_ ?_ | refine CallD.pure (enter9) (h1) ?_ ?_ | refine CallK.pure (enter37) (hT) ?_ ?_ | refine CallD.pure (enter37) (hT) ?_ ?_ | refine CallK.pure (enter25) (hw) ?_ ?_ | refine CallD.pure (enter25) (hw) ?_ ?_); (focus first | ((repeat (first | exact trivial | refine ⟨(by first | exact Or.inl rfl | exact Or.inr rfl), ?_⟩)); done) | (simp only [coL, AV.dat, true_or, or_true, AV.d.injEq, go_sem]; done)); simp only [go_sem, bne_self_eq_false, hl3, hj']) | refine And.intro (by first | ((repeat' first | omega | exact trivial | rfl | assumption | (intro a e; subst e; rfl) | exact map_sz fun a => (by simp only [go_sem]) | refine And.intro ?_ ?_); done) | fail) ?_ | fail)
      (first | refine ret_pure ?_ ?_ ?_ | refine ret_ro ?_ ?_ ?_); focus exact (by simp only [Tryd.results16, resOkL, resOk, Tryd.ntmps16, List.toList_toArray]; first | decide | (simp only [go_sem]; done) | (simp only [go_sem]; and_intros <;> first | omega | rfl | decide))
      rotate_left; focus exact (by repeat (first | exact Fr.rfl' _ _ | assumption | refine Fr.updk ?_ (by omega) _ | refine Fr.stH ?_ _ (by intro n hn; simp only [List.mem_cons, List.not_mem_nil, or_false] at hn; subst hn; simp only; omega)))
      simp only [resA, resV, Tryd.results16, go_sem]
      all_goals try (first | exact Co.t2 (.dat rfl) (.dat rfl) | exact Co.t3 (.dat rfl) (.dat rfl) (.dat rfl))
      exact Co.t2 (by have := co_tm (k := k) (ren := none) (v := t.v) (f := t.f) (us := t.us) (a := .d (.sl (t.us.map tmDV))) rfl; rwa [t.eta] at this) (.dat rfl)
     ·rw [if_neg ho]
      have n2 : (own g t != 0) = true := by simpa using ho
      refine tri_enter Tryd.func16 rfl Tryd.ntmps16 (by simp only [List.length_cons, List.length_nil]; omega) fun w0 h0 k hrd hwr => ?_
      repeat' (first | refine awp_seq_k fun K hK => ?_ | ((first | refine awp_region_k (by kernel_rfl) fun R hR => ?_ | refine awp_draw mixed (by kernel_rfl) (by kernel_rfl) fun R hR => ?_); simp only [go_sem, bne_self_eq_false, hl3, hj', n2]) | ((first | (refine hR _ ?_; clear hR R) | refine awp_skip ?_ | refine awp_exit ?_ | refine awp_ret ?_); try simp only [thenA, inBlockA, reduceIte, reduceCtorEq, Nat.reduceEqDiff, if_false, if_true]) | ((first | refine hK _ ?_ | (clear hK K; first | refine hK _ ?_ | (clear hK K; first | refine hK _ ?_ | (clear hK K; first | refine hK _ ?_ | (clear hK K; refine hK _ ?_))))); clear hK K) | refine awp_true rfl rfl ?_ | refine awp_false rfl rfl ?_ | refine awp_block ?_ | ((first | refine CallK.pure (enter9) (h1) ?_ ?_ | refine CallD.pure (enter9) (h1) ?_ ?_ | refine CallK.pure (enter37) (hT) ?_ ?_ | refine CallD.pure (enter37) (hT) ?_ ?_ | refine CallK.pure (enter25) (hw) ?_ ?_ | refine CallD.pure (enter25) (hw) ?_ ?_); (focus first | ((repeat (first | exact trivial | refine ⟨(by first | exact Or.inl rfl | exact Or.inr rfl), ?_⟩)); done) | (simp only [coL, AV.dat, true_or, or_true, AV.d.injEq, go_sem]; done)); simp only [go_sem, bne_self_eq_false, hl3, hj', n2]) | refine And.intro (by first | ((repeat' first | omega | exact trivial | rfl | assumption | (intro a e; subst e; rfl) | exact map_sz fun a => (by simp only [go_sem]) | refine And.intro ?_ ?_); done) | fail) ?_ | fail)
      (first | refine ret_pure ?_ ?_ ?_ | refine ret_ro ?_ ?_ ?_); focus exact (by simp only [Tryd.results16, resOkL, resOk, Tryd.ntmps16, List.toList_toArray]; first | decide | (simp only [go_sem]; done) | (simp only [go_sem]; and_intros <;> first | omega | rfl | decide))
      rotate_left; focus exact (by repeat (first | exact Fr.rfl' _ _ | assumption | refine Fr.updk ?_ (by omega) _ | refine Fr.stH ?_ _ (by intro n hn; simp only [List.mem_cons, List.not_mem_nil, or_false] at hn; subst hn; simp only; omega)))
      simp only [resA, resV, Tryd.results16, go_sem]
      all_goals try (first | exact Co.t2 (.dat rfl) (.dat rfl) | exact Co.t3 (.dat rfl) (.dat rfl) (.dat rfl))
      exact Co.t2 (co_tm rfl) (.dat rfl)
    ·have hj' : ((j : Int) != ((l.length : Nat) : Int)) = true := by simp; omega
     rw [if_neg hj]
     refine tri_enter Tryd.func16 rfl Tryd.ntmps16 (by simp only [List.length_cons, List.length_nil]; omega) fun w0 h0 k hrd hwr => ?_
     repeat' (first | refine awp_seq_k fun K hK => ?_ | ((first | refine awp_region_k (by kernel_rfl) fun R hR => ?_ | refine awp_draw mixed (by kernel_rfl) (by kernel_rfl) fun R hR => ?_); simp only [go_sem, bne_self_eq_false, hl3, hj']) | ((first | (refine hR _ ?_; clear hR R) | refine awp_skip ?_ | refine awp_exit ?_ | refine awp_ret ?_); try simp only [thenA, inBlockA, reduceIte, reduceCtorEq, Nat.reduceEqDiff, if_false, if_true]) | ((first | refine hK _ ?_ | (clear hK K; first | refine hK _ ?_ | (clear hK K; first | refine hK _ ?_ | (clear hK K; first | refine hK _ ?_ | (clear hK K; refine hK _ ?_))))); clear hK K) | refine awp_true rfl rfl ?_ | refine awp_false rfl rfl ?_ | refine awp_block ?_ | ((first | refine CallK.pure (enter9) (h1) ?_ ?_ | refine CallD.pure (enter9) (h1) ?_ ?_ | refine CallK.pure (enter37) (hT) ?_ ?_ | refine CallD.pure (enter37) (hT) ?_ ?_); (focus first | ((repeat (first | exact trivial | refine ⟨(by first | exact Or.inl rfl | exact Or.inr rfl), ?_⟩)); done) | (simp only [coL, AV.dat, true_or, or_true, AV.d.injEq, go_sem]; done)); simp only [go_sem, bne_self_eq_false, hl3, hj']) | refine And.intro (by first | ((repeat' first | omega | exact trivial | rfl | assumption | (intro a e; subst e; rfl) | exact map_sz fun a => (by simp only [go_sem]) | refine And.intro ?_ ?_); done) | fail) ?_ | fail)
     (first | refine ret_pure ?_ ?_ ?_ | refine ret_ro ?_ ?_ ?_); focus exact (by simp only [Tryd.results16, resOkL, resOk, Tryd.ntmps16, List.toList_toArray]; first | decide | (simp only [go_sem]; done) | (simp only [go_sem]; and_intros <;> first | omega | rfl | decide))
     rotate_left; focus exact (by repeat (first | exact Fr.rfl' _ _ | assumption | refine Fr.updk ?_ (by omega) _ | refine Fr.stH ?_ _ (by intro n hn; simp only [List.mem_cons, List.not_mem_nil, or_false] at hn; subst hn; simp only; omega)))
     simp only [resA, resV, Tryd.results16, go_sem]
     all_goals try (first | exact Co.t2 (.dat rfl) (.dat rfl) | exact Co.t3 (.dat rfl) (.dat rfl) (.dat rfl))
     exact Co.t2 (co_tm rfl) (.dat rfl)
 ·rw [if_pos hg]
  have n2 : (sigOk g != 0) = true := by simpa using hg
  refine tri_enter Tryd.func16 rfl Tryd.ntmps16 (by simp only [List.length_cons, List.length_nil]; omega) fun w0 h0 k hrd hwr => ?_
  repeat' (first | refine awp_seq_k fun K hK => ?_ | ((first | refine awp_region_k (by kernel_rfl) fun R hR => ?_ | refine awp_draw mixed (by kernel_rfl) (by kernel_rfl) fun R hR => ?_); simp only [go_sem, n2]) | ((first | (refine hR _ ?_; clear hR R) | refine awp_skip ?_ | refine awp_exit ?_ | refine awp_ret ?_); try simp only [thenA, inBlockA, reduceIte, reduceCtorEq, Nat.reduceEqDiff, if_false, if_true]) | ((first | refine hK _ ?_ | (clear hK K; first | refine hK _ ?_ | (clear hK K; first | refine hK _ ?_ | (clear hK K; first | refine hK _ ?_ | (clear hK K; refine hK _ ?_))))); clear hK K) | refine awp_true rfl rfl ?_ | refine awp_false rfl rfl ?_ | refine awp_block ?_ | ((first | refine CallK.pure (enter9) (h1) ?_ ?_ | refine CallD.pure (enter9) (h1) ?_ ?_); (focus first | ((repeat (first | exact trivial | refine ⟨(by first | exact Or.inl rfl | exact Or.inr rfl), ?_⟩)); done) | (simp only [coL, AV.dat, true_or, or_true, AV.d.injEq, go_sem]; done)); simp only [go_sem, n2]) | refine And.intro (by first | ((repeat' first | omega | exact trivial | rfl | assumption | (intro a e; subst e; rfl) | exact map_sz fun a => (by simp only [go_sem]) | refine And.intro ?_ ?_); done) | fail) ?_ | fail)
  (first | refine ret_pure ?_ ?_ ?_ | refine ret_ro ?_ ?_ ?_); focus exact (by simp only [Tryd.results16, resOkL, resOk, Tryd.ntmps16, List.toList_toArray]; first | decide | (simp only [go_sem]; done) | (simp only [go_sem]; and_intros <;> first | omega | rfl | decide))
  rotate_left; focus exact (by repeat (first | exact Fr.rfl' _ _ | assumption | refine Fr.updk ?_ (by omega) _ | refine Fr.stH ?_ _ (by intro n hn; simp only [List.mem_cons, List.not_mem_nil, or_false] at hn; subst hn; simp only; omega)))
  simp only [resA, resV, Tryd.results16, go_sem]
  all_goals try (first | exact Co.t2 (.dat rfl) (.dat rfl) | exact Co.t3 (.dat rfl) (.dat rfl) (.dat rfl))
  exact Co.t2 (co_tm rfl) (.dat rfl)
def rcFin (g : List Int) (l : By) : Option (List Lt × Nat) → List Lt × Int
 | some (c, j) => if j = l.length then (if clOk g c = 0 then (c, 0) else ([], clOk g c)) else ([], 1)
 | none => ([], 1)
def flB : By := [36, 102, 97, 108, 115, 101]
theorem pcAns_eq (g : List Int) (l : By) (hg : sigOk g = 0) (hl : ¬ l.length > 3000) (hf : l ≠ flB) : pcAns g l = rcFin g l (rdC l (l.length + 1) (l.length + 1) 0 []) := by
 unfold pcAns rdK
 rw [if_neg (by simp [hg]), if_neg hl]
 cases h : hasAt l 0 [36, 102, 97, 108, 115, 101] with
 | false =>
  rw [if_neg (by simp)]
  cases rdC l (l.length + 1) (l.length + 1) 0 [] <;> rfl
 | true =>
  rw [if_pos rfl]
  simp only
  rw [hasAt_take, List.drop_zero, beq_iff_eq] at h
  have hne : 0 + 6 ≠ l.length := fun e => by
   apply hf
   rw [List.take_of_length_le (by simp only [List.length_cons, List.length_nil]; omega)] at h
   exact h
  rw [if_neg hne]
  have hc : l[0]? = some 36 := by
   have := congrArg (·[0]?) h
   simp only [List.length_cons, List.length_nil] at this
   rw [List.getElem?_take_of_lt (by omega)] at this
   simpa using this
  have hT : rdT l (l.length + 1) 0 = none := by
   rw [rdT, if_neg (by rw [has_no hc (by decide)]; simp), if_neg (by rw [has_no hc (by decide)]; simp)]
  have e : rdC l (l.length + 1) (l.length + 1) 0 [] = none := by
   rw [rdC]
   unfold rdL
   rw [hT]
  rw [e]; rfl
set_option maxHeartbeats 16000000 in
set_option maxRecDepth 20000 in
theorem readClause_main (g : List Int) (l : By) (hL : ¬ l.length > 3000) (hg : sigOk g = 0) (hf : l ≠ flB) (A : List Lt × Int) (hA : A = rcFin g l (rdC l (l.length + 1) (l.length + 1) 0 [])) : Tri Tryd.prog 17 [.d (sgDV g), sA l] (pure' (.tup [.d (clDV A.1), iA A.2])) := by
 have h1 := checkSig_tri g
 rw [hg] at h1
 have hl : l.length ≤ 4000000 := by omega
 have hl3 : decide (((l.length : Nat) : Int) > 3000) = false := by simp; omega
 have hff : (l == [36, 102, 97, 108, 115, 101]) = false := by rw [beq_eq_false_iff_ne]; exact hf
 have n3 : decide ((-1 : Int) < 0) = true := by decide
 refine tri_enter Tryd.func17 rfl Tryd.ntmps17 (by simp only [List.length_cons, List.length_nil]; omega) fun w0 h0 k hrd hwr => ?_
 repeat' (first | refine awp_ghost (ghost_nil (i := 7) (e := 52) rfl) ?_ | refine awp_seq_k fun K hK => ?_ | ((first | refine awp_region_k (by kernel_rfl) fun R hR => ?_ | refine awp_draw mixed (by kernel_rfl) (by kernel_rfl) fun R hR => ?_); simp only [go_sem, bne_self_eq_false, hl3, hff]) | ((first | (refine hR _ ?_; clear hR R) | refine awp_skip ?_ | refine awp_exit ?_ | refine awp_ret ?_); try simp only [thenA, inBlockA, reduceIte, reduceCtorEq, Nat.reduceEqDiff, if_false, if_true]) | ((first | refine hK _ ?_ | (clear hK K; first | refine hK _ ?_ | (clear hK K; first | refine hK _ ?_ | (clear hK K; first | refine hK _ ?_ | (clear hK K; refine hK _ ?_))))); clear hK K) | refine awp_true rfl rfl ?_ | refine awp_false rfl rfl ?_ | refine awp_block ?_ | ((first | refine CallK.pure (enter9) (h1) ?_ ?_ | refine CallD.pure (enter9) (h1) ?_ ?_); (focus first | ((repeat (first | exact trivial | refine ⟨(by first | exact Or.inl rfl | exact Or.inr rfl), ?_⟩)); done) | (simp only [coL, AV.dat, true_or, or_true, AV.d.injEq, go_sem]; done)); simp only [go_sem, bne_self_eq_false, hl3, hff]) | refine And.intro (by first | ((repeat' first | omega | exact trivial | rfl | assumption | (intro a e; subst e; rfl) | exact map_sz fun a => (by simp only [go_sem]) | refine And.intro ?_ ?_); done) | fail) ?_ | fail)
 refine awp_loop (fun σ => ∃ (q i' : Nat) (acc : List Lt), σ.t 1 = sA l ∧ σ.t 2 = .ptr (k, 0) 0 ∧ σ.t 8 = iA i' ∧ σ.t 7 = .own (k + 1 + 1 + 1 + 1 + 1 + 1, 0) (acc.map ltDV) ∧ σ.h (k, 0) = some (.cells 24 [.d (.sl (g.map iD))]) ∧ σ.h (k + 1 + 1 + 1 + 1 + 1 + 1, 0) = some (.perm 52 acc.length) ∧ Fr k h0 σ.h ∧ k + 1 + 1 + 1 + 1 + 1 + 1 < σ.k ∧ i' ≤ l.length ∧ q + acc.length = l.length + 1 ∧ l.length - i' < q ∧ A = rcFin g l (rdC l (l.length + 1) q i' acc)) (fun σ => l.length + 1 - permLen σ.h (k + 1 + 1 + 1 + 1 + 1 + 1, 0)) ?_ ?_
 ·refine ⟨l.length + 1, 0, [], ?_⟩
  simp only [go_sem, ]
  and_intros; all_goals try (first | rfl | omega | assumption | ((repeat (first | exact Fr.rfl' _ _ | assumption | refine Fr.updk ?_ (by omega) _)); done))
 ·rintro σ ⟨q, i', acc, s1, s2, s8, s7, sb, sp, hF, hk, hi', hq, hqi, hA'⟩
  have hne0 := ltne (show k < σ.k by omega)
  have hne1 := ltne hk
  cases q with
  | zero => omega
  | succ q =>
   rw [rdC] at hA'
   unfold rdL at hA'
   cases ha : rdT l (l.length + 1) i' with
   | none =>
    have hC := ta_no l hl i' hi' ha
    rw [ha] at hA'
    simp only [rcFin] at hA'
    rw [hA']
    repeat' (first | refine awp_seq_k fun K hK => ?_ | ((first | refine awp_region_k (by kernel_rfl) fun R hR => ?_ | refine awp_draw mixed (by kernel_rfl) (by kernel_rfl) fun R hR => ?_); simp only [go_sem, s1, s2, s7, s8, sb, sp, hne0, hne1, and_false, n3]) | ((first | (refine hR _ ?_; clear hR R) | refine awp_skip ?_ | refine awp_exit ?_ | refine awp_ret ?_); try simp only [thenA, inBlockA, reduceIte, reduceCtorEq, Nat.reduceEqDiff, if_false, if_true]) | ((first | refine hK _ ?_ | (clear hK K; first | refine hK _ ?_ | (clear hK K; first | refine hK _ ?_ | (clear hK K; first | refine hK _ ?_ | (clear hK K; refine hK _ ?_))))); clear hK K) | refine awp_true rfl rfl ?_ | refine awp_false rfl rfl ?_ | refine awp_block ?_ | ((first | refine CallK.pure (enter37) (hC) ?_ ?_ | refine CallD.pure (enter37) (hC) ?_ ?_); (focus first | ((repeat (first | exact trivial | refine ⟨(by first | exact Or.inl rfl | exact Or.inr rfl), ?_⟩)); done) | (simp only [coL, AV.dat, true_or, or_true, AV.d.injEq, go_sem]; done)); simp only [go_sem, s1, s2, s7, s8, sb, sp, hne0, hne1, and_false, n3]) | refine And.intro (by first | ((repeat' first | omega | exact trivial | rfl | assumption | (intro a e; subst e; rfl) | exact map_sz fun a => (by simp only [go_sem]) | refine And.intro ?_ ?_); done) | fail) ?_ | fail)
    (first | refine ret_pure ?_ ?_ ?_ | refine ret_ro ?_ ?_ ?_); focus exact (by simp only [Tryd.results17, resOkL, resOk, Tryd.ntmps17, List.toList_toArray]; first | decide | (simp only [go_sem, s2, sb, hne0, hne1, and_false]; done) | (simp only [go_sem, s2, sb, hne0, hne1, and_false]; and_intros <;> first | omega | rfl | decide))
    rotate_left; focus exact (by repeat (first | exact Fr.rfl' _ _ | assumption | refine Fr.updk ?_ (by omega) _ | refine Fr.stH ?_ _ (by intro n hn; simp only [List.mem_cons, List.not_mem_nil, or_false] at hn; subst hn; simp only; omega)))
    simp only [resA, resV, Tryd.results17, go_sem, s2, sb, hne0, hne1, and_false]
    all_goals try (first | exact Co.t2 (.dat rfl) (.dat rfl) | exact Co.t3 (.dat rfl) (.dat rfl) (.dat rfl))
   | some p =>
    obtain ⟨ta, ja⟩ := p
    have hCa := ta_of l hl i' hi' ta ja ha
    rw [ha] at hA'
    simp only at hA'
    obtain ⟨u1, u2⟩ := rdT_le l (l.length + 1) i' ta ja hi' ha
    have m1 : decide ((ja : Int) < 0) = false := by simp
    have hS1 := stands_ref l [32, 61, 32] ja hl (by decide) u2
    cases hy : hasAt l ja [32, 61, 32] with
    | true =>
     rw [hy] at hS1
     rw [if_pos hy] at hA'
     have v1 := hasAt_le hy u2
     simp only [List.length_cons, List.length_nil] at v1
     have ea : ((ja : Int) + 3) = ((ja + 3 : Nat) : Int) := by omega
     cases hbb : rdT l (l.length + 1) (ja + 3) with
     | none =>
      have hCb := ta_no l hl (ja + 3) v1 hbb
      rw [hbb] at hA'
      simp only [rcFin] at hA'
      rw [hA']
      repeat' (first | refine awp_seq_k fun K hK => ?_ | ((first | refine awp_region_k (by kernel_rfl) fun R hR => ?_ | refine awp_draw mixed (by kernel_rfl) (by kernel_rfl) fun R hR => ?_); simp only [go_sem, s1, s2, s7, s8, sb, sp, hne0, hne1, and_false, n3, m1, ea]) | ((first | (refine hR _ ?_; clear hR R) | refine awp_skip ?_ | refine awp_exit ?_ | refine awp_ret ?_); try simp only [thenA, inBlockA, reduceIte, reduceCtorEq, Nat.reduceEqDiff, if_false, if_true]) | ((first | refine hK _ ?_ | (clear hK K; first | refine hK _ ?_ | (clear hK K; first | refine hK _ ?_ | (clear hK K; first | refine hK _ ?_ | (clear hK K; refine hK _ ?_))))); clear hK K) | refine awp_true rfl rfl ?_ | refine awp_false rfl rfl ?_ | refine awp_block ?_ | ((first | refine CallK.pure (enter37) (hCa) ?_ ?_ | refine CallD.pure (enter37) (hCa) ?_ ?_); (focus first | ((repeat (first | exact trivial | refine ⟨(by first | exact Or.inl rfl | exact Or.inr rfl), ?_⟩)); done) | (simp only [coL, AV.dat, true_or, or_true, AV.d.injEq, go_sem]; done)); simp only [go_sem, s1, s2, s7, s8, sb, sp, hne0, hne1, and_false, n3, m1, ea]) | ((first | refine CallK.pure (enter37) (hCb) ?_ ?_ | refine CallD.pure (enter37) (hCb) ?_ ?_); (focus first | ((repeat (first | exact trivial | refine ⟨(by first | exact Or.inl rfl | exact Or.inr rfl), ?_⟩)); done) | (simp only [coL, AV.dat, true_or, or_true, AV.d.injEq, go_sem]; done)); simp only [go_sem, s1, s2, s7, s8, sb, sp, hne0, hne1, and_false, n3, m1, ea]) | ((first | refine CallK.pure (enter38) (hS1) ?_ ?_ | refine CallD.pure (enter38) (hS1) ?_ ?_); (focus first | ((repeat (first | exact trivial | refine ⟨(by first | exact Or.inl rfl | exact Or.inr rfl), ?_⟩)); done) | (simp only [coL, AV.dat, true_or, or_true, AV.d.injEq, go_sem]; done)); simp only [go_sem, s1, s2, s7, s8, sb, sp, hne0, hne1, and_false, n3, m1, ea]) | refine And.intro (by first | ((repeat' first | omega | exact trivial | rfl | assumption | (intro a e; subst e; rfl) | exact map_sz fun a => (by simp only [go_sem]) | refine And.intro ?_ ?_); done) | fail) ?_ | fail)
      (first | refine ret_pure ?_ ?_ ?_ | refine ret_ro ?_ ?_ ?_); focus exact (by simp only [Tryd.results17, resOkL, resOk, Tryd.ntmps17, List.toList_toArray]; first | decide | (simp only [go_sem, s2, sb, hne0, hne1, and_false]; done) | (simp only [go_sem, s2, sb, hne0, hne1, and_false]; and_intros <;> first | omega | rfl | decide))
      rotate_left; focus exact (by repeat (first | exact Fr.rfl' _ _ | assumption | refine Fr.updk ?_ (by omega) _ | refine Fr.stH ?_ _ (by intro n hn; simp only [List.mem_cons, List.not_mem_nil, or_false] at hn; subst hn; simp only; omega)))
      simp only [resA, resV, Tryd.results17, go_sem, s2, sb, hne0, hne1, and_false]
      all_goals try (first | exact Co.t2 (.dat rfl) (.dat rfl) | exact Co.t3 (.dat rfl) (.dat rfl) (.dat rfl))
     | some p =>
      obtain ⟨tb, j'⟩ := p
      have hCb := ta_of l hl (ja + 3) v1 tb j' hbb
      obtain ⟨u3, u4⟩ := rdT_le l (l.length + 1) _ tb j' v1 hbb
      rw [hbb] at hA'
      simp only at hA'
      have m2 : decide ((j' : Int) < 0) = false := by simp
      have eap : acc.map ltDV ++ [DV.st [.v (.bool true), .v (.int .i64 ta.v), .v (.int .i64 ta.f), .sl (ta.us.map tmDV), .v (.int .i64 tb.v), .v (.int .i64 tb.f), .sl (tb.us.map tmDV)]] = (acc ++ [(⟨true, ta, tb⟩ : Lt)]).map ltDV := by rw [List.map_append]; rfl
      have eap2 : acc.map ltDV ++ [ltDV ⟨true, ta, tb⟩] = (acc ++ [(⟨true, ta, tb⟩ : Lt)]).map ltDV := by rw [List.map_append]; rfl
      have eal : (acc ++ [(⟨true, ta, tb⟩ : Lt)]).length = acc.length + 1 := by simp
      by_cases hje : j' = l.length
      ·have hje1 : ((j' : Int) == ((l.length : Nat) : Int)) = true := by simp; omega
       have hnsep : hasAt l j' [32, 124, 32] = false := by
        cases h : hasAt l j' [32, 124, 32] with
        | false => rfl
        | true => have := hasAt_le h u4; simp at this; omega
       rw [if_neg (by rw [hnsep]; simp)] at hA'
       simp only [rcFin] at hA'
       rw [if_pos hje] at hA'
       have hw := checkClause_tri g (acc ++ [(⟨true, ta, tb⟩ : Lt)]) (by rw [eal]; omega)
       by_cases ho : clOk g (acc ++ [(⟨true, ta, tb⟩ : Lt)]) = 0
       ·rw [if_pos ho] at hA'
        rw [ho] at hw
        repeat' (first | refine awp_seq_k fun K hK => ?_ | ((first | refine awp_region_k (by kernel_rfl) fun R hR => ?_ | refine awp_draw mixed (by kernel_rfl) (by kernel_rfl) fun R hR => ?_); simp only [go_sem, s1, s2, s7, s8, sb, sp, hne0, hne1, and_false, n3, m1, m2, ea, hje1, bne_self_eq_false, eap, eap2, eal, List.length_map, Int.toNat_natCast]) | ((first | (refine hR _ ?_; clear hR R) | refine awp_skip ?_ | refine awp_exit ?_ | refine awp_ret ?_); try simp only [thenA, inBlockA, reduceIte, reduceCtorEq, Nat.reduceEqDiff, if_false, if_true]) | ((first | refine hK _ ?_ | (clear hK K; first | refine hK _ ?_ | (clear hK K; first | refine hK _ ?_ | (clear hK K; first | refine hK _ ?_ | (clear hK K; refine hK _ ?_))))); clear hK K) | refine awp_true rfl rfl ?_ | refine awp_false rfl rfl ?_ | refine awp_block ?_ | ((first | refine CallK.pure (enter37) (hCa) ?_ ?_ | refine CallD.pure (enter37) (hCa) ?_ ?_); (focus first | ((repeat (first | exact trivial | refine ⟨(by first | exact Or.inl rfl | exact Or.inr rfl), ?_⟩)); done) | (simp only [coL, AV.dat, true_or, or_true, AV.d.injEq, go_sem]; done)); simp only [go_sem, s1, s2, s7, s8, sb, sp, hne0, hne1, and_false, n3, m1, m2, ea, hje1, bne_self_eq_false, eap, eap2, eal, List.length_map, Int.toNat_natCast]) | ((first | refine CallK.pure (enter37) (hCb) ?_ ?_ | refine CallD.pure (enter37) (hCb) ?_ ?_); (focus first | ((repeat (first | exact trivial | refine ⟨(by first | exact Or.inl rfl | exact Or.inr rfl), ?_⟩)); done) | (simp only [coL, AV.dat, true_or, or_true, AV.d.injEq, go_sem]; done)); simp only [go_sem, s1, s2, s7, s8, sb, sp, hne0, hne1, and_false, n3, m1, m2, ea, hje1, bne_self_eq_false, eap, eap2, eal, List.length_map, Int.toNat_natCast]) | ((first | refine CallK.pure (enter38) (hS1) ?_ ?_ | refine CallD.pure (enter38) (hS1) ?_ ?_ | refine CallK.pure (enter10) (hw) ?_ ?_ | refine CallD.pure (enter10) (hw) ?_ ?_); (focus first | ((repeat (first | exact trivial | refine ⟨(by first | exact Or.inl rfl | exact Or.inr rfl), ?_⟩)); done) | (simp only [coL, AV.dat, true_or, or_true, AV.d.injEq, go_sem]; done)); simp only [go_sem, s1, s2, s7, s8, sb, sp, hne0, hne1, and_false, n3, m1, m2, ea, hje1, bne_self_eq_false, eap, eap2, eal, List.length_map, Int.toNat_natCast]) | refine And.intro (by first | ((repeat' first | omega | exact trivial | rfl | assumption | (intro a e; subst e; rfl) | exact map_sz fun a => (by simp only [go_sem]) | refine And.intro ?_ ?_); done) | fail) ?_ | fail)
        (first | refine ret_pure ?_ ?_ ?_ | refine ret_ro ?_ ?_ ?_); focus exact (by simp only [Tryd.results17, resOkL, resOk, Tryd.ntmps17, List.toList_toArray]; first | decide | (simp only [go_sem, s2, sb, hne0, hne1, and_false]; done) | (simp only [go_sem, s2, sb, hne0, hne1, and_false]; and_intros <;> first | omega | rfl | decide))
        rotate_left; focus exact (by repeat (first | exact Fr.rfl' _ _ | assumption | refine Fr.updk ?_ (by omega) _ | refine Fr.stH ?_ _ (by intro n hn; simp only [List.mem_cons, List.not_mem_nil, or_false] at hn; subst hn; simp only; omega)))
        simp only [resA, resV, Tryd.results17, go_sem, s2, sb, hne0, hne1, and_false]
        all_goals try (first | exact Co.t2 (.dat rfl) (.dat rfl) | exact Co.t3 (.dat rfl) (.dat rfl) (.dat rfl))
        rw [hA']
        exact Co.t2 (.dat rfl) (.dat rfl)
       ·rw [if_neg ho] at hA'
        have n2 : (clOk g (acc ++ [(⟨true, ta, tb⟩ : Lt)]) != 0) = true := by simpa using ho
        repeat' (first | refine awp_seq_k fun K hK => ?_ | ((first | refine awp_region_k (by kernel_rfl) fun R hR => ?_ | refine awp_draw mixed (by kernel_rfl) (by kernel_rfl) fun R hR => ?_); simp only [go_sem, s1, s2, s7, s8, sb, sp, hne0, hne1, and_false, n2, n3, m1, m2, ea, hje1, eap, eap2, eal, List.length_map, Int.toNat_natCast]) | ((first | (refine hR _ ?_; clear hR R) | refine awp_skip ?_ | refine awp_exit ?_ | refine awp_ret ?_); try simp only [thenA, inBlockA, reduceIte, reduceCtorEq, Nat.reduceEqDiff, if_false, if_true]) | ((first | refine hK _ ?_ | (clear hK K; first | refine hK _ ?_ | (clear hK K; first | refine hK _ ?_ | (clear hK K; first | refine hK _ ?_ | (clear hK K; refine hK _ ?_))))); clear hK K) | refine awp_true rfl rfl ?_ | refine awp_false rfl rfl ?_ | refine awp_block ?_ | ((first | refine CallK.pure (enter37) (hCa) ?_ ?_ | refine CallD.pure (enter37) (hCa) ?_ ?_); (focus first | ((repeat (first | exact trivial | refine ⟨(by first | exact Or.inl rfl | exact Or.inr rfl), ?_⟩)); done) | (simp only [coL, AV.dat, true_or, or_true, AV.d.injEq, go_sem]; done)); simp only [go_sem, s1, s2, s7, s8, sb, sp, hne0, hne1, and_false, n2, n3, m1, m2, ea, hje1, eap, eap2, eal, List.length_map, Int.toNat_natCast]) | ((first | refine CallK.pure (enter37) (hCb) ?_ ?_ | refine CallD.pure (enter37) (hCb) ?_ ?_); (focus first | ((repeat (first | exact trivial | refine ⟨(by first | exact Or.inl rfl | exact Or.inr rfl), ?_⟩)); done) | (simp only [coL, AV.dat, true_or, or_true, AV.d.injEq, go_sem]; done)); simp only [go_sem, s1, s2, s7, s8, sb, sp, hne0, hne1, and_false, n2, n3, m1, m2, ea, hje1, eap, eap2, eal, List.length_map, Int.toNat_natCast]) | ((first | refine CallK.pure (enter38) (hS1) ?_ ?_ | refine CallD.pure (enter38) (hS1) ?_ ?_ | refine CallK.pure (enter10) (hw) ?_ ?_ | refine CallD.pure (enter10) (hw) ?_ ?_); (focus first | ((repeat (first | exact trivial | refine ⟨(by first | exact Or.inl rfl | exact Or.inr rfl), ?_⟩)); done) | (simp only [coL, AV.dat, true_or, or_true, AV.d.injEq, go_sem]; done)); simp only [go_sem, s1, s2, s7, s8, sb, sp, hne0, hne1, and_false, n2, n3, m1, m2, ea, hje1, eap, eap2, eal, List.length_map, Int.toNat_natCast]) | refine And.intro (by first | ((repeat' first | omega | exact trivial | rfl | assumption | (intro a e; subst e; rfl) | exact map_sz fun a => (by simp only [go_sem]) | refine And.intro ?_ ?_); done) | fail) ?_ | fail)
        (first | refine ret_pure ?_ ?_ ?_ | refine ret_ro ?_ ?_ ?_); focus exact (by simp only [Tryd.results17, resOkL, resOk, Tryd.ntmps17, List.toList_toArray]; first | decide | (simp only [go_sem, s2, sb, hne0, hne1, and_false]; done) | (simp only [go_sem, s2, sb, hne0, hne1, and_false]; and_intros <;> first | omega | rfl | decide))
        rotate_left; focus exact (by repeat (first | exact Fr.rfl' _ _ | assumption | refine Fr.updk ?_ (by omega) _ | refine Fr.stH ?_ _ (by intro n hn; simp only [List.mem_cons, List.not_mem_nil, or_false] at hn; subst hn; simp only; omega)))
        simp only [resA, resV, Tryd.results17, go_sem, s2, sb, hne0, hne1, and_false]
        all_goals try (first | exact Co.t2 (.dat rfl) (.dat rfl) | exact Co.t3 (.dat rfl) (.dat rfl) (.dat rfl))
        rw [hA']
        exact Co.t2 (.dat rfl) (.dat rfl)
      ·have hje1 : ((j' : Int) == ((l.length : Nat) : Int)) = false := by simp; omega
       have hS3 := stands_ref l [32, 124, 32] j' hl (by decide) u4
       cases hcm : hasAt l j' [32, 124, 32] with
       | false =>
        rw [if_neg (by rw [hcm]; simp)] at hA'
        simp only [rcFin] at hA'
        rw [if_neg hje] at hA'
        rw [hcm] at hS3
        rw [hA']
        repeat' (first | refine awp_seq_k fun K hK => ?_ | ((first | refine awp_region_k (by kernel_rfl) fun R hR => ?_ | refine awp_draw mixed (by kernel_rfl) (by kernel_rfl) fun R hR => ?_); simp only [go_sem, s1, s2, s7, s8, sb, sp, hne0, hne1, and_false, n3, m1, m2, ea, hje1, eap, eap2, eal, List.length_map, Int.toNat_natCast]) | ((first | (refine hR _ ?_; clear hR R) | refine awp_skip ?_ | refine awp_exit ?_ | refine awp_ret ?_); try simp only [thenA, inBlockA, reduceIte, reduceCtorEq, Nat.reduceEqDiff, if_false, if_true]) | ((first | refine hK _ ?_ | (clear hK K; first | refine hK _ ?_ | (clear hK K; first | refine hK _ ?_ | (clear hK K; first | refine hK _ ?_ | (clear hK K; refine hK _ ?_))))); clear hK K) | refine awp_true rfl rfl ?_ | refine awp_false rfl rfl ?_ | refine awp_block ?_ | ((first | refine CallK.pure (enter37) (hCa) ?_ ?_ | refine CallD.pure (enter37) (hCa) ?_ ?_); (focus first | ((repeat (first | exact trivial | refine ⟨(by first | exact Or.inl rfl | exact Or.inr rfl), ?_⟩)); done) | (simp only [coL, AV.dat, true_or, or_true, AV.d.injEq, go_sem]; done)); simp only [go_sem, s1, s2, s7, s8, sb, sp, hne0, hne1, and_false, n3, m1, m2, ea, hje1, eap, eap2, eal, List.length_map, Int.toNat_natCast]) | ((first | refine CallK.pure (enter37) (hCb) ?_ ?_ | refine CallD.pure (enter37) (hCb) ?_ ?_); (focus first | ((repeat (first | exact trivial | refine ⟨(by first | exact Or.inl rfl | exact Or.inr rfl), ?_⟩)); done) | (simp only [coL, AV.dat, true_or, or_true, AV.d.injEq, go_sem]; done)); simp only [go_sem, s1, s2, s7, s8, sb, sp, hne0, hne1, and_false, n3, m1, m2, ea, hje1, eap, eap2, eal, List.length_map, Int.toNat_natCast]) | ((first | refine CallK.pure (enter38) (hS1) ?_ ?_ | refine CallD.pure (enter38) (hS1) ?_ ?_); (focus first | ((repeat (first | exact trivial | refine ⟨(by first | exact Or.inl rfl | exact Or.inr rfl), ?_⟩)); done) | (simp only [coL, AV.dat, true_or, or_true, AV.d.injEq, go_sem]; done)); simp only [go_sem, s1, s2, s7, s8, sb, sp, hne0, hne1, and_false, n3, m1, m2, ea, hje1, eap, eap2, eal, List.length_map, Int.toNat_natCast]) | ((first | refine CallK.pure (enter38) (hS3) ?_ ?_ | refine CallD.pure (enter38) (hS3) ?_ ?_); (focus first | ((repeat (first | exact trivial | refine ⟨(by first | exact Or.inl rfl | exact Or.inr rfl), ?_⟩)); done) | (simp only [coL, AV.dat, true_or, or_true, AV.d.injEq, go_sem]; done)); simp only [go_sem, s1, s2, s7, s8, sb, sp, hne0, hne1, and_false, n3, m1, m2, ea, hje1, eap, eap2, eal, List.length_map, Int.toNat_natCast]) | refine And.intro (by first | ((repeat' first | omega | exact trivial | rfl | assumption | (intro a e; subst e; rfl) | exact map_sz fun a => (by simp only [go_sem]) | refine And.intro ?_ ?_); done) | fail) ?_ | fail)
        (first | refine ret_pure ?_ ?_ ?_ | refine ret_ro ?_ ?_ ?_); focus exact (by simp only [Tryd.results17, resOkL, resOk, Tryd.ntmps17, List.toList_toArray]; first | decide | (simp only [go_sem, s2, sb, hne0, hne1, and_false]; done) | (simp only [go_sem, s2, sb, hne0, hne1, and_false]; and_intros <;> first | omega | rfl | decide))
        rotate_left; focus exact (by repeat (first | exact Fr.rfl' _ _ | assumption | refine Fr.updk ?_ (by omega) _ | refine Fr.stH ?_ _ (by intro n hn; simp only [List.mem_cons, List.not_mem_nil, or_false] at hn; subst hn; simp only; omega)))
        simp only [resA, resV, Tryd.results17, go_sem, s2, sb, hne0, hne1, and_false]
        all_goals try (first | exact Co.t2 (.dat rfl) (.dat rfl) | exact Co.t3 (.dat rfl) (.dat rfl) (.dat rfl))
       | true =>
        rw [if_pos hcm] at hA'
        rw [hcm] at hS3
        have g3 := hasAt_le hcm u4
        simp only [List.length_cons, List.length_nil] at g3
        have ej : ((j' : Int) + 3) = ((j' + 3 : Nat) : Int) := by omega
        repeat' (first | refine awp_seq_k fun K hK => ?_ | ((first | refine awp_region_k (by kernel_rfl) fun R hR => ?_ | refine awp_draw mixed (by kernel_rfl) (by kernel_rfl) fun R hR => ?_); simp only [go_sem, s1, s2, s7, s8, sb, sp, hne0, hne1, and_false, n3, m1, m2, ea, ej, hje1, eap, eap2, eal, List.length_map, Int.toNat_natCast]) | ((first | (refine hR _ ?_; clear hR R) | refine awp_skip ?_ | refine awp_exit ?_ | refine awp_ret ?_); try simp only [thenA, inBlockA, reduceIte, reduceCtorEq, Nat.reduceEqDiff, if_false, if_true]) | ((first | refine hK _ ?_ | (clear hK K; first | refine hK _ ?_ | (clear hK K; first | refine hK _ ?_ | (clear hK K; first | refine hK _ ?_ | (clear hK K; refine hK _ ?_))))); clear hK K) | refine awp_true rfl rfl ?_ | refine awp_false rfl rfl ?_ | refine awp_block ?_ | ((first | refine CallK.pure (enter37) (hCa) ?_ ?_ | refine CallD.pure (enter37) (hCa) ?_ ?_); (focus first | ((repeat (first | exact trivial | refine ⟨(by first | exact Or.inl rfl | exact Or.inr rfl), ?_⟩)); done) | (simp only [coL, AV.dat, true_or, or_true, AV.d.injEq, go_sem]; done)); simp only [go_sem, s1, s2, s7, s8, sb, sp, hne0, hne1, and_false, n3, m1, m2, ea, ej, hje1, eap, eap2, eal, List.length_map, Int.toNat_natCast]) | ((first | refine CallK.pure (enter37) (hCb) ?_ ?_ | refine CallD.pure (enter37) (hCb) ?_ ?_); (focus first | ((repeat (first | exact trivial | refine ⟨(by first | exact Or.inl rfl | exact Or.inr rfl), ?_⟩)); done) | (simp only [coL, AV.dat, true_or, or_true, AV.d.injEq, go_sem]; done)); simp only [go_sem, s1, s2, s7, s8, sb, sp, hne0, hne1, and_false, n3, m1, m2, ea, ej, hje1, eap, eap2, eal, List.length_map, Int.toNat_natCast]) | ((first | refine CallK.pure (enter38) (hS1) ?_ ?_ | refine CallD.pure (enter38) (hS1) ?_ ?_); (focus first | ((repeat (first | exact trivial | refine ⟨(by first | exact Or.inl rfl | exact Or.inr rfl), ?_⟩)); done) | (simp only [coL, AV.dat, true_or, or_true, AV.d.injEq, go_sem]; done)); simp only [go_sem, s1, s2, s7, s8, sb, sp, hne0, hne1, and_false, n3, m1, m2, ea, ej, hje1, eap, eap2, eal, List.length_map, Int.toNat_natCast]) | ((first | refine CallK.pure (enter38) (hS3) ?_ ?_ | refine CallD.pure (enter38) (hS3) ?_ ?_); (focus first | ((repeat (first | exact trivial | refine ⟨(by first | exact Or.inl rfl | exact Or.inr rfl), ?_⟩)); done) | (simp only [coL, AV.dat, true_or, or_true, AV.d.injEq, go_sem]; done)); simp only [go_sem, s1, s2, s7, s8, sb, sp, hne0, hne1, and_false, n3, m1, m2, ea, ej, hje1, eap, eap2, eal, List.length_map, Int.toNat_natCast]) | refine And.intro (by first | ((repeat' first | omega | exact trivial | rfl | assumption | (intro a e; subst e; rfl) | exact map_sz fun a => (by simp only [go_sem]) | refine And.intro ?_ ?_); done) | fail) ?_ | fail)
        refine ⟨⟨q, j' + 3, acc ++ [⟨true, ta, tb⟩], ?_⟩, ?_⟩
        rotate_left
        ·simp only [permLen, go_sem, sp, hne0, hne1, eal]; omega
        simp only [go_sem, s1, s2, s7, s8, sb, sp, hne0, hne1, and_false, eap, eap2, eal, List.length_map]
        and_intros; all_goals try (first | rfl | omega | assumption | ((repeat (first | exact Fr.rfl' _ _ | assumption | refine Fr.updk ?_ (by omega) _)); done))
    | false =>
     rw [hy] at hS1
     rw [if_neg (by rw [hy]; simp)] at hA'
     have hS2 := stands_ref l [32, 33, 61, 32] ja hl (by decide) u2
     cases hy2 : hasAt l ja [32, 33, 61, 32] with
     | true =>
      rw [hy2] at hS2
      rw [if_pos hy2] at hA'
      have v1 := hasAt_le hy2 u2
      simp only [List.length_cons, List.length_nil] at v1
      have ea : ((ja : Int) + 4) = ((ja + 4 : Nat) : Int) := by omega
      cases hbb : rdT l (l.length + 1) (ja + 4) with
      | none =>
       have hCb := ta_no l hl (ja + 4) v1 hbb
       rw [hbb] at hA'
       simp only [rcFin] at hA'
       rw [hA']
       repeat' (first | refine awp_seq_k fun K hK => ?_ | ((first | refine awp_region_k (by kernel_rfl) fun R hR => ?_ | refine awp_draw mixed (by kernel_rfl) (by kernel_rfl) fun R hR => ?_); simp only [go_sem, s1, s2, s7, s8, sb, sp, hne0, hne1, and_false, n3, m1, ea]) | ((first | (refine hR _ ?_; clear hR R) | refine awp_skip ?_ | refine awp_exit ?_ | refine awp_ret ?_); try simp only [thenA, inBlockA, reduceIte, reduceCtorEq, Nat.reduceEqDiff, if_false, if_true]) | ((first | refine hK _ ?_ | (clear hK K; first | refine hK _ ?_ | (clear hK K; first | refine hK _ ?_ | (clear hK K; first | refine hK _ ?_ | (clear hK K; refine hK _ ?_))))); clear hK K) | refine awp_true rfl rfl ?_ | refine awp_false rfl rfl ?_ | refine awp_block ?_ | ((first | refine CallK.pure (enter37) (hCa) ?_ ?_ | refine CallD.pure (enter37) (hCa) ?_ ?_); (focus first | ((repeat (first | exact trivial | refine ⟨(by first | exact Or.inl rfl | exact Or.inr rfl), ?_⟩)); done) | (simp only [coL, AV.dat, true_or, or_true, AV.d.injEq, go_sem]; done)); simp only [go_sem, s1, s2, s7, s8, sb, sp, hne0, hne1, and_false, n3, m1, ea]) | ((first | refine CallK.pure (enter37) (hCb) ?_ ?_ | refine CallD.pure (enter37) (hCb) ?_ ?_); (focus first | ((repeat (first | exact trivial | refine ⟨(by first | exact Or.inl rfl | exact Or.inr rfl), ?_⟩)); done) | (simp only [coL, AV.dat, true_or, or_true, AV.d.injEq, go_sem]; done)); simp only [go_sem, s1, s2, s7, s8, sb, sp, hne0, hne1, and_false, n3, m1, ea]) | ((first | refine CallK.pure (enter38) (hS1) ?_ ?_ | refine CallD.pure (enter38) (hS1) ?_ ?_); (focus first | ((repeat (first | exact trivial | refine ⟨(by first | exact Or.inl rfl | exact Or.inr rfl), ?_⟩)); done) | (simp only [coL, AV.dat, true_or, or_true, AV.d.injEq, go_sem]; done)); simp only [go_sem, s1, s2, s7, s8, sb, sp, hne0, hne1, and_false, n3, m1, ea]) | ((first | refine CallK.pure (enter38) (hS2) ?_ ?_ | refine CallD.pure (enter38) (hS2) ?_ ?_); (focus first | ((repeat (first | exact trivial | refine ⟨(by first | exact Or.inl rfl | exact Or.inr rfl), ?_⟩)); done) | (simp only [coL, AV.dat, true_or, or_true, AV.d.injEq, go_sem]; done)); simp only [go_sem, s1, s2, s7, s8, sb, sp, hne0, hne1, and_false, n3, m1, ea]) | refine And.intro (by first | ((repeat' first | omega | exact trivial | rfl | assumption | (intro a e; subst e; rfl) | exact map_sz fun a => (by simp only [go_sem]) | refine And.intro ?_ ?_); done) | fail) ?_ | fail)
       (first | refine ret_pure ?_ ?_ ?_ | refine ret_ro ?_ ?_ ?_); focus exact (by simp only [Tryd.results17, resOkL, resOk, Tryd.ntmps17, List.toList_toArray]; first | decide | (simp only [go_sem, s2, sb, hne0, hne1, and_false]; done) | (simp only [go_sem, s2, sb, hne0, hne1, and_false]; and_intros <;> first | omega | rfl | decide))
       rotate_left; focus exact (by repeat (first | exact Fr.rfl' _ _ | assumption | refine Fr.updk ?_ (by omega) _ | refine Fr.stH ?_ _ (by intro n hn; simp only [List.mem_cons, List.not_mem_nil, or_false] at hn; subst hn; simp only; omega)))
       simp only [resA, resV, Tryd.results17, go_sem, s2, sb, hne0, hne1, and_false]
       all_goals try (first | exact Co.t2 (.dat rfl) (.dat rfl) | exact Co.t3 (.dat rfl) (.dat rfl) (.dat rfl))
      | some p =>
       obtain ⟨tb, j'⟩ := p
       have hCb := ta_of l hl (ja + 4) v1 tb j' hbb
       obtain ⟨u3, u4⟩ := rdT_le l (l.length + 1) _ tb j' v1 hbb
       rw [hbb] at hA'
       simp only at hA'
       have m2 : decide ((j' : Int) < 0) = false := by simp
       have eap : acc.map ltDV ++ [DV.st [.v (.bool false), .v (.int .i64 ta.v), .v (.int .i64 ta.f), .sl (ta.us.map tmDV), .v (.int .i64 tb.v), .v (.int .i64 tb.f), .sl (tb.us.map tmDV)]] = (acc ++ [(⟨false, ta, tb⟩ : Lt)]).map ltDV := by rw [List.map_append]; rfl
       have eap2 : acc.map ltDV ++ [ltDV ⟨false, ta, tb⟩] = (acc ++ [(⟨false, ta, tb⟩ : Lt)]).map ltDV := by rw [List.map_append]; rfl
       have eal : (acc ++ [(⟨false, ta, tb⟩ : Lt)]).length = acc.length + 1 := by simp
       by_cases hje : j' = l.length
       ·have hje1 : ((j' : Int) == ((l.length : Nat) : Int)) = true := by simp; omega
        have hnsep : hasAt l j' [32, 124, 32] = false := by
         cases h : hasAt l j' [32, 124, 32] with
         | false => rfl
         | true => have := hasAt_le h u4; simp at this; omega
        rw [if_neg (by rw [hnsep]; simp)] at hA'
        simp only [rcFin] at hA'
        rw [if_pos hje] at hA'
        have hw := checkClause_tri g (acc ++ [(⟨false, ta, tb⟩ : Lt)]) (by rw [eal]; omega)
        by_cases ho : clOk g (acc ++ [(⟨false, ta, tb⟩ : Lt)]) = 0
        ·rw [if_pos ho] at hA'
         rw [ho] at hw
         repeat' (first | refine awp_seq_k fun K hK => ?_ | ((first | refine awp_region_k (by kernel_rfl) fun R hR => ?_ | refine awp_draw mixed (by kernel_rfl) (by kernel_rfl) fun R hR => ?_); simp only [go_sem, s1, s2, s7, s8, sb, sp, hne0, hne1, and_false, n3, m1, m2, ea, hje1, bne_self_eq_false, eap, eap2, eal, List.length_map, Int.toNat_natCast]) | ((first | (refine hR _ ?_; clear hR R) | refine awp_skip ?_ | refine awp_exit ?_ | refine awp_ret ?_); try simp only [thenA, inBlockA, reduceIte, reduceCtorEq, Nat.reduceEqDiff, if_false, if_true]) | ((first | refine hK _ ?_ | (clear hK K; first | refine hK _ ?_ | (clear hK K; first | refine hK _ ?_ | (clear hK K; first | refine hK _ ?_ | (clear hK K; refine hK _ ?_))))); clear hK K) | refine awp_true rfl rfl ?_ | refine awp_false rfl rfl ?_ | refine awp_block ?_ | ((first | refine CallK.pure (enter37) (hCa) ?_ ?_ | refine CallD.pure (enter37) (hCa) ?_ ?_); (focus first | ((repeat (first | exact trivial | refine ⟨(by first | exact Or.inl rfl | exact Or.inr rfl), ?_⟩)); done) | (simp only [coL, AV.dat, true_or, or_true, AV.d.injEq, go_sem]; done)); simp only [go_sem, s1, s2, s7, s8, sb, sp, hne0, hne1, and_false, n3, m1, m2, ea, hje1, bne_self_eq_false, eap, eap2, eal, List.length_map, Int.toNat_natCast]) | ((first | refine CallK.pure (enter37) (hCb) ?_ ?_ | refine CallD.pure (enter37) (hCb) ?_ ?_); (focus first | ((repeat (first | exact trivial | refine ⟨(by first | exact Or.inl rfl | exact Or.inr rfl), ?_⟩)); done) | (simp only [coL, AV.dat, true_or, or_true, AV.d.injEq, go_sem]; done)); simp only [go_sem, s1, s2, s7, s8, sb, sp, hne0, hne1, and_false, n3, m1, m2, ea, hje1, bne_self_eq_false, eap, eap2, eal, List.length_map, Int.toNat_natCast]) | ((first | refine CallK.pure (enter38) (hS1) ?_ ?_ | refine CallD.pure (enter38) (hS1) ?_ ?_); (focus first | ((repeat (first | exact trivial | refine ⟨(by first | exact Or.inl rfl | exact Or.inr rfl), ?_⟩)); done) | (simp only [coL, AV.dat, true_or, or_true, AV.d.injEq, go_sem]; done)); simp only [go_sem, s1, s2, s7, s8, sb, sp, hne0, hne1, and_false, n3, m1, m2, ea, hje1, bne_self_eq_false, eap, eap2, eal, List.length_map, Int.toNat_natCast]) | ((first | refine CallK.pure (enter38) (hS2) ?_ ?_ | refine CallD.pure (enter38) (hS2) ?_ ?_); (focus first | ((repeat (first | exact trivial | refine ⟨(by first | exact Or.inl rfl | exact Or.inr rfl), ?_⟩)); done) | (simp only [coL, AV.dat, true_or, or_true, AV.d.injEq, go_sem]; done)); simp only [go_sem, s1, s2, s7, s8, sb, sp, hne0, hne1, and_false, n3, m1, m2, ea, hje1, bne_self_eq_false, eap, eap2, eal, List.length_map, Int.toNat_natCast]) | ((first | refine CallK.pure (enter10) (hw) ?_ ?_ | refine CallD.pure (enter10) (hw) ?_ ?_); (focus first | ((repeat (first | exact trivial | refine ⟨(by first | exact Or.inl rfl | exact Or.inr rfl), ?_⟩)); done) | (simp only [coL, AV.dat, true_or, or_true, AV.d.injEq, go_sem]; done)); simp only [go_sem, s1, s2, s7, s8, sb, sp, hne0, hne1, and_false, n3, m1, m2, ea, hje1, bne_self_eq_false, eap, eap2, eal, List.length_map, Int.toNat_natCast]) | refine And.intro (by first | ((repeat' first | omega | exact trivial | rfl | assumption | (intro a e; subst e; rfl) | exact map_sz fun a => (by simp only [go_sem]) | refine And.intro ?_ ?_); done) | fail) ?_ | fail)
         (first | refine ret_pure ?_ ?_ ?_ | refine ret_ro ?_ ?_ ?_); focus exact (by simp only [Tryd.results17, resOkL, resOk, Tryd.ntmps17, List.toList_toArray]; first | decide | (simp only [go_sem, s2, sb, hne0, hne1, and_false]; done) | (simp only [go_sem, s2, sb, hne0, hne1, and_false]; and_intros <;> first | omega | rfl | decide))
         rotate_left; focus exact (by repeat (first | exact Fr.rfl' _ _ | assumption | refine Fr.updk ?_ (by omega) _ | refine Fr.stH ?_ _ (by intro n hn; simp only [List.mem_cons, List.not_mem_nil, or_false] at hn; subst hn; simp only; omega)))
         simp only [resA, resV, Tryd.results17, go_sem, s2, sb, hne0, hne1, and_false]
         all_goals try (first | exact Co.t2 (.dat rfl) (.dat rfl) | exact Co.t3 (.dat rfl) (.dat rfl) (.dat rfl))
         rw [hA']
         exact Co.t2 (.dat rfl) (.dat rfl)
        ·rw [if_neg ho] at hA'
         have n2 : (clOk g (acc ++ [(⟨false, ta, tb⟩ : Lt)]) != 0) = true := by simpa using ho
         repeat' (first | refine awp_seq_k fun K hK => ?_ | ((first | refine awp_region_k (by kernel_rfl) fun R hR => ?_ | refine awp_draw mixed (by kernel_rfl) (by kernel_rfl) fun R hR => ?_); simp only [go_sem, s1, s2, s7, s8, sb, sp, hne0, hne1, and_false, n2, n3, m1, m2, ea, hje1, eap, eap2, eal, List.length_map, Int.toNat_natCast]) | ((first | (refine hR _ ?_; clear hR R) | refine awp_skip ?_ | refine awp_exit ?_ | refine awp_ret ?_); try simp only [thenA, inBlockA, reduceIte, reduceCtorEq, Nat.reduceEqDiff, if_false, if_true]) | ((first | refine hK _ ?_ | (clear hK K; first | refine hK _ ?_ | (clear hK K; first | refine hK _ ?_ | (clear hK K; first | refine hK _ ?_ | (clear hK K; refine hK _ ?_))))); clear hK K) | refine awp_true rfl rfl ?_ | refine awp_false rfl rfl ?_ | refine awp_block ?_ | ((first | refine CallK.pure (enter37) (hCa) ?_ ?_ | refine CallD.pure (enter37) (hCa) ?_ ?_); (focus first | ((repeat (first | exact trivial | refine ⟨(by first | exact Or.inl rfl | exact Or.inr rfl), ?_⟩)); done) | (simp only [coL, AV.dat, true_or, or_true, AV.d.injEq, go_sem]; done)); simp only [go_sem, s1, s2, s7, s8, sb, sp, hne0, hne1, and_false, n2, n3, m1, m2, ea, hje1, eap, eap2, eal, List.length_map, Int.toNat_natCast]) | ((first | refine CallK.pure (enter37) (hCb) ?_ ?_ | refine CallD.pure (enter37) (hCb) ?_ ?_); (focus first | ((repeat (first | exact trivial | refine ⟨(by first | exact Or.inl rfl | exact Or.inr rfl), ?_⟩)); done) | (simp only [coL, AV.dat, true_or, or_true, AV.d.injEq, go_sem]; done)); simp only [go_sem, s1, s2, s7, s8, sb, sp, hne0, hne1, and_false, n2, n3, m1, m2, ea, hje1, eap, eap2, eal, List.length_map, Int.toNat_natCast]) | ((first | refine CallK.pure (enter38) (hS1) ?_ ?_ | refine CallD.pure (enter38) (hS1) ?_ ?_); (focus first | ((repeat (first | exact trivial | refine ⟨(by first | exact Or.inl rfl | exact Or.inr rfl), ?_⟩)); done) | (simp only [coL, AV.dat, true_or, or_true, AV.d.injEq, go_sem]; done)); simp only [go_sem, s1, s2, s7, s8, sb, sp, hne0, hne1, and_false, n2, n3, m1, m2, ea, hje1, eap, eap2, eal, List.length_map, Int.toNat_natCast]) | ((first | refine CallK.pure (enter38) (hS2) ?_ ?_ | refine CallD.pure (enter38) (hS2) ?_ ?_); (focus first | ((repeat (first | exact trivial | refine ⟨(by first | exact Or.inl rfl | exact Or.inr rfl), ?_⟩)); done) | (simp only [coL, AV.dat, true_or, or_true, AV.d.injEq, go_sem]; done)); simp only [go_sem, s1, s2, s7, s8, sb, sp, hne0, hne1, and_false, n2, n3, m1, m2, ea, hje1, eap, eap2, eal, List.length_map, Int.toNat_natCast]) | ((first | refine CallK.pure (enter10) (hw) ?_ ?_ | refine CallD.pure (enter10) (hw) ?_ ?_); (focus first | ((repeat (first | exact trivial | refine ⟨(by first | exact Or.inl rfl | exact Or.inr rfl), ?_⟩)); done) | (simp only [coL, AV.dat, true_or, or_true, AV.d.injEq, go_sem]; done)); simp only [go_sem, s1, s2, s7, s8, sb, sp, hne0, hne1, and_false, n2, n3, m1, m2, ea, hje1, eap, eap2, eal, List.length_map, Int.toNat_natCast]) | refine And.intro (by first | ((repeat' first | omega | exact trivial | rfl | assumption | (intro a e; subst e; rfl) | exact map_sz fun a => (by simp only [go_sem]) | refine And.intro ?_ ?_); done) | fail) ?_ | fail)
         (first | refine ret_pure ?_ ?_ ?_ | refine ret_ro ?_ ?_ ?_); focus exact (by simp only [Tryd.results17, resOkL, resOk, Tryd.ntmps17, List.toList_toArray]; first | decide | (simp only [go_sem, s2, sb, hne0, hne1, and_false]; done) | (simp only [go_sem, s2, sb, hne0, hne1, and_false]; and_intros <;> first | omega | rfl | decide))
         rotate_left; focus exact (by repeat (first | exact Fr.rfl' _ _ | assumption | refine Fr.updk ?_ (by omega) _ | refine Fr.stH ?_ _ (by intro n hn; simp only [List.mem_cons, List.not_mem_nil, or_false] at hn; subst hn; simp only; omega)))
         simp only [resA, resV, Tryd.results17, go_sem, s2, sb, hne0, hne1, and_false]
         all_goals try (first | exact Co.t2 (.dat rfl) (.dat rfl) | exact Co.t3 (.dat rfl) (.dat rfl) (.dat rfl))
         rw [hA']
         exact Co.t2 (.dat rfl) (.dat rfl)
       ·have hje1 : ((j' : Int) == ((l.length : Nat) : Int)) = false := by simp; omega
        have hS3 := stands_ref l [32, 124, 32] j' hl (by decide) u4
        cases hcm : hasAt l j' [32, 124, 32] with
        | false =>
         rw [if_neg (by rw [hcm]; simp)] at hA'
         simp only [rcFin] at hA'
         rw [if_neg hje] at hA'
         rw [hcm] at hS3
         rw [hA']
         repeat' (first | refine awp_seq_k fun K hK => ?_ | ((first | refine awp_region_k (by kernel_rfl) fun R hR => ?_ | refine awp_draw mixed (by kernel_rfl) (by kernel_rfl) fun R hR => ?_); simp only [go_sem, s1, s2, s7, s8, sb, sp, hne0, hne1, and_false, n3, m1, m2, ea, hje1, eap, eap2, eal, List.length_map, Int.toNat_natCast]) | ((first | (refine hR _ ?_; clear hR R) | refine awp_skip ?_ | refine awp_exit ?_ | refine awp_ret ?_); try simp only [thenA, inBlockA, reduceIte, reduceCtorEq, Nat.reduceEqDiff, if_false, if_true]) | ((first | refine hK _ ?_ | (clear hK K; first | refine hK _ ?_ | (clear hK K; first | refine hK _ ?_ | (clear hK K; first | refine hK _ ?_ | (clear hK K; refine hK _ ?_))))); clear hK K) | refine awp_true rfl rfl ?_ | refine awp_false rfl rfl ?_ | refine awp_block ?_ | ((first | refine CallK.pure (enter37) (hCa) ?_ ?_ | refine CallD.pure (enter37) (hCa) ?_ ?_); (focus first | ((repeat (first | exact trivial | refine ⟨(by first | exact Or.inl rfl | exact Or.inr rfl), ?_⟩)); done) | (simp only [coL, AV.dat, true_or, or_true, AV.d.injEq, go_sem]; done)); simp only [go_sem, s1, s2, s7, s8, sb, sp, hne0, hne1, and_false, n3, m1, m2, ea, hje1, eap, eap2, eal, List.length_map, Int.toNat_natCast]) | ((first | refine CallK.pure (enter37) (hCb) ?_ ?_ | refine CallD.pure (enter37) (hCb) ?_ ?_); (focus first | ((repeat (first | exact trivial | refine ⟨(by first | exact Or.inl rfl | exact Or.inr rfl), ?_⟩)); done) | (simp only [coL, AV.dat, true_or, or_true, AV.d.injEq, go_sem]; done)); simp only [go_sem, s1, s2, s7, s8, sb, sp, hne0, hne1, and_false, n3, m1, m2, ea, hje1, eap, eap2, eal, List.length_map, Int.toNat_natCast]) | ((first | refine CallK.pure (enter38) (hS1) ?_ ?_ | refine CallD.pure (enter38) (hS1) ?_ ?_); (focus first | ((repeat (first | exact trivial | refine ⟨(by first | exact Or.inl rfl | exact Or.inr rfl), ?_⟩)); done) | (simp only [coL, AV.dat, true_or, or_true, AV.d.injEq, go_sem]; done)); simp only [go_sem, s1, s2, s7, s8, sb, sp, hne0, hne1, and_false, n3, m1, m2, ea, hje1, eap, eap2, eal, List.length_map, Int.toNat_natCast]) | ((first | refine CallK.pure (enter38) (hS2) ?_ ?_ | refine CallD.pure (enter38) (hS2) ?_ ?_); (focus first | ((repeat (first | exact trivial | refine ⟨(by first | exact Or.inl rfl | exact Or.inr rfl), ?_⟩)); done) | (simp only [coL, AV.dat, true_or, or_true, AV.d.injEq, go_sem]; done)); simp only [go_sem, s1, s2, s7, s8, sb, sp, hne0, hne1, and_false, n3, m1, m2, ea, hje1, eap, eap2, eal, List.length_map, Int.toNat_natCast]) | ((first | refine CallK.pure (enter38) (hS3) ?_ ?_ | refine CallD.pure (enter38) (hS3) ?_ ?_); (focus first | ((repeat (first | exact trivial | refine ⟨(by first | exact Or.inl rfl | exact Or.inr rfl), ?_⟩)); done) | (simp only [coL, AV.dat, true_or, or_true, AV.d.injEq, go_sem]; done)); simp only [go_sem, s1, s2, s7, s8, sb, sp, hne0, hne1, and_false, n3, m1, m2, ea, hje1, eap, eap2, eal, List.length_map, Int.toNat_natCast]) | refine And.intro (by first | ((repeat' first | omega | exact trivial | rfl | assumption | (intro a e; subst e; rfl) | exact map_sz fun a => (by simp only [go_sem]) | refine And.intro ?_ ?_); done) | fail) ?_ | fail)
         (first | refine ret_pure ?_ ?_ ?_ | refine ret_ro ?_ ?_ ?_); focus exact (by simp only [Tryd.results17, resOkL, resOk, Tryd.ntmps17, List.toList_toArray]; first | decide | (simp only [go_sem, s2, sb, hne0, hne1, and_false]; done) | (simp only [go_sem, s2, sb, hne0, hne1, and_false]; and_intros <;> first | omega | rfl | decide))
         rotate_left; focus exact (by repeat (first | exact Fr.rfl' _ _ | assumption | refine Fr.updk ?_ (by omega) _ | refine Fr.stH ?_ _ (by intro n hn; simp only [List.mem_cons, List.not_mem_nil, or_false] at hn; subst hn; simp only; omega)))
         simp only [resA, resV, Tryd.results17, go_sem, s2, sb, hne0, hne1, and_false]
         all_goals try (first | exact Co.t2 (.dat rfl) (.dat rfl) | exact Co.t3 (.dat rfl) (.dat rfl) (.dat rfl))
        | true =>
         rw [if_pos hcm] at hA'
         rw [hcm] at hS3
         have g3 := hasAt_le hcm u4
         simp only [List.length_cons, List.length_nil] at g3
         have ej : ((j' : Int) + 3) = ((j' + 3 : Nat) : Int) := by omega
         repeat' (first | refine awp_seq_k fun K hK => ?_ | ((first | refine awp_region_k (by kernel_rfl) fun R hR => ?_ | refine awp_draw mixed (by kernel_rfl) (by kernel_rfl) fun R hR => ?_); simp only [go_sem, s1, s2, s7, s8, sb, sp, hne0, hne1, and_false, n3, m1, m2, ea, ej, hje1, eap, eap2, eal, List.length_map, Int.toNat_natCast]) | ((first | (refine hR _ ?_; clear hR R) | refine awp_skip ?_ | refine awp_exit ?_ | refine awp_ret ?_); try simp only [thenA, inBlockA, reduceIte, reduceCtorEq, Nat.reduceEqDiff, if_false, if_true]) | ((first | refine hK _ ?_ | (clear hK K; first | refine hK _ ?_ | (clear hK K; first | refine hK _ ?_ | (clear hK K; first | refine hK _ ?_ | (clear hK K; refine hK _ ?_))))); clear hK K) | refine awp_true rfl rfl ?_ | refine awp_false rfl rfl ?_ | refine awp_block ?_ | ((first | refine CallK.pure (enter37) (hCa) ?_ ?_ | refine CallD.pure (enter37) (hCa) ?_ ?_); (focus first | ((repeat (first | exact trivial | refine ⟨(by first | exact Or.inl rfl | exact Or.inr rfl), ?_⟩)); done) | (simp only [coL, AV.dat, true_or, or_true, AV.d.injEq, go_sem]; done)); simp only [go_sem, s1, s2, s7, s8, sb, sp, hne0, hne1, and_false, n3, m1, m2, ea, ej, hje1, eap, eap2, eal, List.length_map, Int.toNat_natCast]) | ((first | refine CallK.pure (enter37) (hCb) ?_ ?_ | refine CallD.pure (enter37) (hCb) ?_ ?_); (focus first | ((repeat (first | exact trivial | refine ⟨(by first | exact Or.inl rfl | exact Or.inr rfl), ?_⟩)); done) | (simp only [coL, AV.dat, true_or, or_true, AV.d.injEq, go_sem]; done)); simp only [go_sem, s1, s2, s7, s8, sb, sp, hne0, hne1, and_false, n3, m1, m2, ea, ej, hje1, eap, eap2, eal, List.length_map, Int.toNat_natCast]) | ((first | refine CallK.pure (enter38) (hS1) ?_ ?_ | refine CallD.pure (enter38) (hS1) ?_ ?_); (focus first | ((repeat (first | exact trivial | refine ⟨(by first | exact Or.inl rfl | exact Or.inr rfl), ?_⟩)); done) | (simp only [coL, AV.dat, true_or, or_true, AV.d.injEq, go_sem]; done)); simp only [go_sem, s1, s2, s7, s8, sb, sp, hne0, hne1, and_false, n3, m1, m2, ea, ej, hje1, eap, eap2, eal, List.length_map, Int.toNat_natCast]) | ((first | refine CallK.pure (enter38) (hS2) ?_ ?_ | refine CallD.pure (enter38) (hS2) ?_ ?_); (focus first | ((repeat (first | exact trivial | refine ⟨(by first | exact Or.inl rfl | exact Or.inr rfl), ?_⟩)); done) | (simp only [coL, AV.dat, true_or, or_true, AV.d.injEq, go_sem]; done)); simp only [go_sem, s1, s2, s7, s8, sb, sp, hne0, hne1, and_false, n3, m1, m2, ea, ej, hje1, eap, eap2, eal, List.length_map, Int.toNat_natCast]) | ((first | refine CallK.pure (enter38) (hS3) ?_ ?_ | refine CallD.pure (enter38) (hS3) ?_ ?_); (focus first | ((repeat (first | exact trivial | refine ⟨(by first | exact Or.inl rfl | exact Or.inr rfl), ?_⟩)); done) | (simp only [coL, AV.dat, true_or, or_true, AV.d.injEq, go_sem]; done)); simp only [go_sem, s1, s2, s7, s8, sb, sp, hne0, hne1, and_false, n3, m1, m2, ea, ej, hje1, eap, eap2, eal, List.length_map, Int.toNat_natCast]) | refine And.intro (by first | ((repeat' first | omega | exact trivial | rfl | assumption | (intro a e; subst e; rfl) | exact map_sz fun a => (by simp only [go_sem]) | refine And.intro ?_ ?_); done) | fail) ?_ | fail)
         refine ⟨⟨q, j' + 3, acc ++ [⟨false, ta, tb⟩], ?_⟩, ?_⟩
         rotate_left
         ·simp only [permLen, go_sem, sp, hne0, hne1, eal]; omega
         simp only [go_sem, s1, s2, s7, s8, sb, sp, hne0, hne1, and_false, eap, eap2, eal, List.length_map]
         and_intros; all_goals try (first | rfl | omega | assumption | ((repeat (first | exact Fr.rfl' _ _ | assumption | refine Fr.updk ?_ (by omega) _)); done))
     | false =>
      rw [hy2] at hS2
      rw [if_neg (by rw [hy2]; simp)] at hA'
      simp only [rcFin] at hA'
      rw [hA']
      repeat' (first | refine awp_seq_k fun K hK => ?_ | ((first | refine awp_region_k (by kernel_rfl) fun R hR => ?_ | refine awp_draw mixed (by kernel_rfl) (by kernel_rfl) fun R hR => ?_); simp only [go_sem, s1, s2, s7, s8, sb, sp, hne0, hne1, and_false, n3, m1]) | ((first | (refine hR _ ?_; clear hR R) | refine awp_skip ?_ | refine awp_exit ?_ | refine awp_ret ?_); try simp only [thenA, inBlockA, reduceIte, reduceCtorEq, Nat.reduceEqDiff, if_false, if_true]) | ((first | refine hK _ ?_ | (clear hK K; first | refine hK _ ?_ | (clear hK K; first | refine hK _ ?_ | (clear hK K; first | refine hK _ ?_ | (clear hK K; refine hK _ ?_))))); clear hK K) | refine awp_true rfl rfl ?_ | refine awp_false rfl rfl ?_ | refine awp_block ?_ | ((first | refine CallK.pure (enter38) (hS1) ?_ ?_ | refine CallD.pure (enter38) (hS1) ?_ ?_); (focus first | ((repeat (first | exact trivial | refine ⟨(by first | exact Or.inl rfl | exact Or.inr rfl), ?_⟩)); done) | (simp only [coL, AV.dat, true_or, or_true, AV.d.injEq, go_sem]; done)); simp only [go_sem, s1, s2, s7, s8, sb, sp, hne0, hne1, and_false, n3, m1]) | ((first | refine CallK.pure (enter38) (hS2) ?_ ?_ | refine CallD.pure (enter38) (hS2) ?_ ?_); (focus first | ((repeat (first | exact trivial | refine ⟨(by first | exact Or.inl rfl | exact Or.inr rfl), ?_⟩)); done) | (simp only [coL, AV.dat, true_or, or_true, AV.d.injEq, go_sem]; done)); simp only [go_sem, s1, s2, s7, s8, sb, sp, hne0, hne1, and_false, n3, m1]) | ((first | refine CallK.pure (enter37) (hCa) ?_ ?_ | refine CallD.pure (enter37) (hCa) ?_ ?_); (focus first | ((repeat (first | exact trivial | refine ⟨(by first | exact Or.inl rfl | exact Or.inr rfl), ?_⟩)); done) | (simp only [coL, AV.dat, true_or, or_true, AV.d.injEq, go_sem]; done)); simp only [go_sem, s1, s2, s7, s8, sb, sp, hne0, hne1, and_false, n3, m1]) | refine And.intro (by first | ((repeat' first | omega | exact trivial | rfl | assumption | (intro a e; subst e; rfl) | exact map_sz fun a => (by simp only [go_sem]) | refine And.intro ?_ ?_); done) | fail) ?_ | fail)
      (first | refine ret_pure ?_ ?_ ?_ | refine ret_ro ?_ ?_ ?_); focus exact (by simp only [Tryd.results17, resOkL, resOk, Tryd.ntmps17, List.toList_toArray]; first | decide | (simp only [go_sem, s2, sb, hne0, hne1, and_false]; done) | (simp only [go_sem, s2, sb, hne0, hne1, and_false]; and_intros <;> first | omega | rfl | decide))
      rotate_left; focus exact (by repeat (first | exact Fr.rfl' _ _ | assumption | refine Fr.updk ?_ (by omega) _ | refine Fr.stH ?_ _ (by intro n hn; simp only [List.mem_cons, List.not_mem_nil, or_false] at hn; subst hn; simp only; omega)))
      simp only [resA, resV, Tryd.results17, go_sem, s2, sb, hne0, hne1, and_false]
      all_goals try (first | exact Co.t2 (.dat rfl) (.dat rfl) | exact Co.t3 (.dat rfl) (.dat rfl) (.dat rfl))
set_option maxHeartbeats 4000000 in
set_option maxRecDepth 20000 in
theorem readClause_ref (g : List Int) (l : By) (hL : l.length ≤ 4000000) : Tri Tryd.prog 17 [.d (sgDV g), sA l] (pure' (.tup [.d (clDV (pcAns g l).1), iA (pcAns g l).2])) := by
 have h1 := checkSig_tri g
 by_cases hg : sigOk g = 0
 ·by_cases hl : l.length > 3000
  ·have e : pcAns g l = ([], 2) := by unfold pcAns; rw [if_neg (by simp [hg]), if_pos hl]
   rw [e]
   rw [hg] at h1
   have hl3 : decide (((l.length : Nat) : Int) > 3000) = true := by simp; omega
   refine tri_enter Tryd.func17 rfl Tryd.ntmps17 (by simp only [List.length_cons, List.length_nil]; omega) fun w0 h0 k hrd hwr => ?_
   repeat' (first | refine awp_seq_k fun K hK => ?_ | ((first | refine awp_region_k (by kernel_rfl) fun R hR => ?_ | refine awp_draw mixed (by kernel_rfl) (by kernel_rfl) fun R hR => ?_); simp only [go_sem, bne_self_eq_false, hl3]) | ((first | (refine hR _ ?_; clear hR R) | refine awp_skip ?_ | refine awp_exit ?_ | refine awp_ret ?_); try simp only [thenA, inBlockA, reduceIte, reduceCtorEq, Nat.reduceEqDiff, if_false, if_true]) | ((first | refine hK _ ?_ | (clear hK K; first | refine hK _ ?_ | (clear hK K; first | refine hK _ ?_ | (clear hK K; first | refine hK _ ?_ | (clear hK K; refine hK _ ?_))))); clear hK K) | refine awp_true rfl rfl ?_ | refine awp_false rfl rfl ?_ | refine awp_block ?_ | ((first | refine CallK.pure (enter9) (h1) ?_ ?_ | refine CallD.pure (enter9) (h1) ?_ ?_); (focus first | ((repeat (first | exact trivial | refine ⟨(by first | exact Or.inl rfl | exact Or.inr rfl), ?_⟩)); done) | (simp only [coL, AV.dat, true_or, or_true, AV.d.injEq, go_sem]; done)); simp only [go_sem, bne_self_eq_false, hl3]) | refine And.intro (by first | ((repeat' first | omega | exact trivial | rfl | assumption | (intro a e; subst e; rfl) | exact map_sz fun a => (by simp only [go_sem]) | refine And.intro ?_ ?_); done) | fail) ?_ | fail)
   (first | refine ret_pure ?_ ?_ ?_ | refine ret_ro ?_ ?_ ?_); focus exact (by simp only [Tryd.results17, resOkL, resOk, Tryd.ntmps17, List.toList_toArray]; first | decide | (simp only [go_sem]; done) | (simp only [go_sem]; and_intros <;> first | omega | rfl | decide))
   rotate_left; focus exact (by repeat (first | exact Fr.rfl' _ _ | assumption | refine Fr.updk ?_ (by omega) _ | refine Fr.stH ?_ _ (by intro n hn; simp only [List.mem_cons, List.not_mem_nil, or_false] at hn; subst hn; simp only; omega)))
   simp only [resA, resV, Tryd.results17, go_sem]
   all_goals try (first | exact Co.t2 (.dat rfl) (.dat rfl) | exact Co.t3 (.dat rfl) (.dat rfl) (.dat rfl))
  ·by_cases hf : l = flB
   ·have e : pcAns g l = ([], 0) := by
     unfold pcAns
     rw [if_neg (by simp [hg]), if_neg hl, hf]
     rfl
    rw [e]
    rw [hg] at h1
    have hl3 : decide (((l.length : Nat) : Int) > 3000) = false := by simp; omega
    have hff : (l == [36, 102, 97, 108, 115, 101]) = true := by rw [hf]; rfl
    refine tri_enter Tryd.func17 rfl Tryd.ntmps17 (by simp only [List.length_cons, List.length_nil]; omega) fun w0 h0 k hrd hwr => ?_
    repeat' (first | refine awp_seq_k fun K hK => ?_ | ((first | refine awp_region_k (by kernel_rfl) fun R hR => ?_ | refine awp_draw mixed (by kernel_rfl) (by kernel_rfl) fun R hR => ?_); simp only [go_sem, bne_self_eq_false, hl3, hff]) | ((first | (refine hR _ ?_; clear hR R) | refine awp_skip ?_ | refine awp_exit ?_ | refine awp_ret ?_); try simp only [thenA, inBlockA, reduceIte, reduceCtorEq, Nat.reduceEqDiff, if_false, if_true]) | ((first | refine hK _ ?_ | (clear hK K; first | refine hK _ ?_ | (clear hK K; first | refine hK _ ?_ | (clear hK K; first | refine hK _ ?_ | (clear hK K; refine hK _ ?_))))); clear hK K) | refine awp_true rfl rfl ?_ | refine awp_false rfl rfl ?_ | refine awp_block ?_ | ((first | refine CallK.pure (enter9) (h1) ?_ ?_ | refine CallD.pure (enter9) (h1) ?_ ?_); (focus first | ((repeat (first | exact trivial | refine ⟨(by first | exact Or.inl rfl | exact Or.inr rfl), ?_⟩)); done) | (simp only [coL, AV.dat, true_or, or_true, AV.d.injEq, go_sem]; done)); simp only [go_sem, bne_self_eq_false, hl3, hff]) | refine And.intro (by first | ((repeat' first | omega | exact trivial | rfl | assumption | (intro a e; subst e; rfl) | exact map_sz fun a => (by simp only [go_sem]) | refine And.intro ?_ ?_); done) | fail) ?_ | fail)
    (first | refine ret_pure ?_ ?_ ?_ | refine ret_ro ?_ ?_ ?_); focus exact (by simp only [Tryd.results17, resOkL, resOk, Tryd.ntmps17, List.toList_toArray]; first | decide | (simp only [go_sem]; done) | (simp only [go_sem]; and_intros <;> first | omega | rfl | decide))
    rotate_left; focus exact (by repeat (first | exact Fr.rfl' _ _ | assumption | refine Fr.updk ?_ (by omega) _ | refine Fr.stH ?_ _ (by intro n hn; simp only [List.mem_cons, List.not_mem_nil, or_false] at hn; subst hn; simp only; omega)))
    simp only [resA, resV, Tryd.results17, go_sem]
    all_goals try (first | exact Co.t2 (.dat rfl) (.dat rfl) | exact Co.t3 (.dat rfl) (.dat rfl) (.dat rfl))
   ·exact readClause_main g l hl hg hf _ (pcAns_eq g l hg hl hf)
 ·have e : pcAns g l = ([], sigOk g) := by unfold pcAns; rw [if_pos hg]
  rw [e]
  have n2 : (sigOk g != 0) = true := by simpa using hg
  refine tri_enter Tryd.func17 rfl Tryd.ntmps17 (by simp only [List.length_cons, List.length_nil]; omega) fun w0 h0 k hrd hwr => ?_
  repeat' (first | refine awp_seq_k fun K hK => ?_ | ((first | refine awp_region_k (by kernel_rfl) fun R hR => ?_ | refine awp_draw mixed (by kernel_rfl) (by kernel_rfl) fun R hR => ?_); simp only [go_sem, n2]) | ((first | (refine hR _ ?_; clear hR R) | refine awp_skip ?_ | refine awp_exit ?_ | refine awp_ret ?_); try simp only [thenA, inBlockA, reduceIte, reduceCtorEq, Nat.reduceEqDiff, if_false, if_true]) | ((first | refine hK _ ?_ | (clear hK K; first | refine hK _ ?_ | (clear hK K; first | refine hK _ ?_ | (clear hK K; first | refine hK _ ?_ | (clear hK K; refine hK _ ?_))))); clear hK K) | refine awp_true rfl rfl ?_ | refine awp_false rfl rfl ?_ | refine awp_block ?_ | ((first | refine CallK.pure (enter9) (h1) ?_ ?_ | refine CallD.pure (enter9) (h1) ?_ ?_); (focus first | ((repeat (first | exact trivial | refine ⟨(by first | exact Or.inl rfl | exact Or.inr rfl), ?_⟩)); done) | (simp only [coL, AV.dat, true_or, or_true, AV.d.injEq, go_sem]; done)); simp only [go_sem, n2]) | refine And.intro (by first | ((repeat' first | omega | exact trivial | rfl | assumption | (intro a e; subst e; rfl) | exact map_sz fun a => (by simp only [go_sem]) | refine And.intro ?_ ?_); done) | fail) ?_ | fail)
  (first | refine ret_pure ?_ ?_ ?_ | refine ret_ro ?_ ?_ ?_); focus exact (by simp only [Tryd.results17, resOkL, resOk, Tryd.ntmps17, List.toList_toArray]; first | decide | (simp only [go_sem]; done) | (simp only [go_sem]; and_intros <;> first | omega | rfl | decide))
  rotate_left; focus exact (by repeat (first | exact Fr.rfl' _ _ | assumption | refine Fr.updk ?_ (by omega) _ | refine Fr.stH ?_ _ (by intro n hn; simp only [List.mem_cons, List.not_mem_nil, or_false] at hn; subst hn; simp only; omega)))
  simp only [resA, resV, Tryd.results17, go_sem]
  all_goals try (first | exact Co.t2 (.dat rfl) (.dat rfl) | exact Co.t3 (.dat rfl) (.dat rfl) (.dat rfl))
end Go.Proofs.YtmeekpinkfpnhabDoor
