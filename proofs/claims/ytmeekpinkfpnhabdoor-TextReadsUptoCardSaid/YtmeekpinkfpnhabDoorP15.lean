/- The document's reader of terms. -/
import Derived.Test.YtmeekpinkfpnhabDoorP09
import Derived.Test.YtmeekpinkfpnhabDoorP14
set_option linter.all false
namespace Go.Proofs.YtmeekpinkfpnhabDoor
open Go.RowKit
def taF (l : By) (f i : Nat) : Tm × Int := match rdT l f i with | some (t, j) => (t, j) | none => (.mk 0 0 [], -1)
def TaSpec (l : By) (f : Nat) : Prop := ∀ i : Nat, i ≤ l.length → l.length - i < f → Tri Tryd.prog 37 [sA l, iA i] (pure' (.tup [.d (tmDV (taF l f i).1), iA (taF l f i).2]))
theorem hasAt_one (l : By) (i : Nat) (c : UInt8) : hasAt l i [c] = (l[i]? == some c) := by
 unfold hasAt Lib.hasPrefix
 cases h : l[i]? with
 | none =>
  rw [List.drop_eq_nil_of_le (by simpa using h)]
  rfl
 | some d =>
  obtain ⟨hi, rfl⟩ := List.getElem?_eq_some_iff.1 h
  rw [List.drop_eq_getElem_cons hi]
  simp [List.isPrefixOf, eq_comm, Bool.beq_comm]
theorem has_no {l : By} {i : Nat} {c d : UInt8} (h : l[i]? = some d) (hne : d ≠ c) : hasAt l i [c] = false := by rw [hasAt_one, h]; simpa using hne
theorem has_yes {l : By} {i : Nat} {c : UInt8} (h : l[i]? = some c) : hasAt l i [c] = true := by rw [hasAt_one, h]; simp
theorem has_end {l : By} {i : Nat} {c : UInt8} (h : l.length ≤ i) : hasAt l i [c] = false := by rw [hasAt_one, List.getElem?_eq_none h]; rfl
theorem byte_ne {c d : UInt8} {n : Int} (h : c ≠ d) (hd : (d.toNat : Int) = n) : ((c.toNat : Int) != n) = true := by
 rw [← hd]
 simp only [bne_iff_ne, ne_eq]
 intro e
 apply h
 have : c.toNat = d.toNat := by omega
 rw [← UInt8.ofNat_toNat (x := c), this, UInt8.ofNat_toNat]
set_option maxHeartbeats 4000000 in
set_option maxRecDepth 20000 in
theorem ta_end (l : By) (f i : Nat) (hl : l.length ≤ 4000000) (hi : i ≤ l.length) (hge : l.length ≤ i) : Tri Tryd.prog 37 [sA l, iA i] (pure' (.tup [.d (tmDV (.mk 0 0 [])), iA (-1)])) := by
 refine tri_enter Tryd.func37 rfl Tryd.ntmps37 (by simp only [List.length_cons, List.length_nil]; omega) fun w0 h0 k hrd hwr => ?_
 have h1 : decide ((i : Int) ≥ (l.length : Int)) = true := by simp; omega
 repeat' (first | refine awp_seq_k fun K hK => ?_ | ((first | refine awp_region_k (by kernel_rfl) fun R hR => ?_ | refine awp_draw mixed (by kernel_rfl) (by kernel_rfl) fun R hR => ?_); simp only [go_sem, h1]) | ((first | (refine hR _ ?_; clear hR R) | refine awp_skip ?_ | refine awp_exit ?_ | refine awp_ret ?_); try simp only [thenA, inBlockA, reduceIte, reduceCtorEq, Nat.reduceEqDiff, if_false, if_true]) | ((first | refine hK _ ?_ | (clear hK K; first | refine hK _ ?_ | (clear hK K; first | refine hK _ ?_ | (clear hK K; first | refine hK _ ?_ | (clear hK K; refine hK _ ?_))))); clear hK K) | refine awp_true rfl rfl ?_ | refine awp_false rfl rfl ?_ | refine awp_block ?_ | refine And.intro (by first | ((repeat' first | omega | exact trivial | rfl | assumption | (intro a e; subst e; rfl) | exact map_sz fun a => (by simp only [go_sem]) | refine And.intro ?_ ?_); done) | fail) ?_ | fail)
 (first | refine ret_pure ?_ ?_ ?_ | refine ret_ro ?_ ?_ ?_); focus exact (by simp only [Tryd.results37, resOkL, resOk, Tryd.ntmps37, List.toList_toArray]; first | decide | (simp only [go_sem]; done) | (simp only [go_sem]; and_intros <;> first | omega | rfl | decide))
 rotate_left; focus exact (by repeat (first | exact Fr.rfl' _ _ | assumption | refine Fr.updk ?_ (by omega) _ | refine Fr.stH ?_ _ (by intro n hn; simp only [List.mem_cons, List.not_mem_nil, or_false] at hn; subst hn; simp only; omega)))
 simp only [resA, resV, Tryd.results37, go_sem]
 all_goals try (first | exact Co.t2 (.dat rfl) (.dat rfl) | exact Co.t3 (.dat rfl) (.dat rfl) (.dat rfl))
 exact Co.t2 (co_tm rfl) (.dat rfl)
set_option maxHeartbeats 4000000 in
set_option maxRecDepth 20000 in
theorem ta_other (l : By) (f i : Nat) (hl : l.length ≤ 4000000) {c : UInt8} (hc : l[i]? = some c) (h88 : c ≠ 88) (h102 : c ≠ 102) : Tri Tryd.prog 37 [sA l, iA i] (pure' (.tup [.d (tmDV (.mk 0 0 [])), iA (-1)])) := by
 have hlt := (List.getElem?_eq_some_iff.1 hc).1
 have hc2 := byteAt_bs hc
 refine tri_enter Tryd.func37 rfl Tryd.ntmps37 (by simp only [List.length_cons, List.length_nil]; omega) fun w0 h0 k hrd hwr => ?_
 have h1 : decide ((i : Int) ≥ (l.length : Int)) = false := by simp; omega
 have hi1 : (i : Int) < (l.length : Int) := by omega
 have n1 := byte_ne (n := 88) h88 rfl
 have n2 := byte_ne (n := 102) h102 rfl
 repeat' (first | refine awp_seq_k fun K hK => ?_ | ((first | refine awp_region_k (by kernel_rfl) fun R hR => ?_ | refine awp_draw mixed (by kernel_rfl) (by kernel_rfl) fun R hR => ?_); simp only [go_sem, h1, hc2, n1, n2, Int.toNat_natCast]) | ((first | (refine hR _ ?_; clear hR R) | refine awp_skip ?_ | refine awp_exit ?_ | refine awp_ret ?_); try simp only [thenA, inBlockA, reduceIte, reduceCtorEq, Nat.reduceEqDiff, if_false, if_true]) | ((first | refine hK _ ?_ | (clear hK K; first | refine hK _ ?_ | (clear hK K; first | refine hK _ ?_ | (clear hK K; first | refine hK _ ?_ | (clear hK K; refine hK _ ?_))))); clear hK K) | refine awp_true rfl rfl ?_ | refine awp_false rfl rfl ?_ | refine awp_block ?_ | refine And.intro (by first | ((repeat' first | omega | exact trivial | rfl | assumption | (intro a e; subst e; rfl) | exact map_sz fun a => (by simp only [go_sem]) | refine And.intro ?_ ?_); done) | fail) ?_ | fail)
 (first | refine ret_pure ?_ ?_ ?_ | refine ret_ro ?_ ?_ ?_); focus exact (by simp only [Tryd.results37, resOkL, resOk, Tryd.ntmps37, List.toList_toArray]; first | decide | (simp only [go_sem]; done) | (simp only [go_sem]; and_intros <;> first | omega | rfl | decide))
 rotate_left; focus exact (by repeat (first | exact Fr.rfl' _ _ | assumption | refine Fr.updk ?_ (by omega) _ | refine Fr.stH ?_ _ (by intro n hn; simp only [List.mem_cons, List.not_mem_nil, or_false] at hn; subst hn; simp only; omega)))
 simp only [resA, resV, Tryd.results37, go_sem]
 all_goals try (first | exact Co.t2 (.dat rfl) (.dat rfl) | exact Co.t3 (.dat rfl) (.dat rfl) (.dat rfl))
 exact Co.t2 (co_tm rfl) (.dat rfl)
set_option maxHeartbeats 4000000 in
set_option maxRecDepth 20000 in
theorem ta_none (l : By) (f i : Nat) (hl : l.length ≤ 4000000) {c : UInt8} (hc : l[i]? = some c) (hcc : c = 88 ∨ c = 102) (hn : rdN l (i + 1) = none) : Tri Tryd.prog 37 [sA l, iA i] (pure' (.tup [.d (tmDV (.mk 0 0 [])), iA (-1)])) := by
 have hlt := (List.getElem?_eq_some_iff.1 hc).1
 have hc2 := byteAt_bs hc
 have hN := numberAt_tri l (i + 1) hl hlt
 have hna : naAns l (i + 1) = (-1, (naAns l (i + 1)).2) := by unfold naAns; rw [hn]
 rw [hna] at hN
 refine tri_enter Tryd.func37 rfl Tryd.ntmps37 (by simp only [List.length_cons, List.length_nil]; omega) fun w0 h0 k hrd hwr => ?_
 have h1 : decide ((i : Int) ≥ (l.length : Int)) = false := by simp; omega
 have hi1 : (i : Int) < (l.length : Int) := by omega
 have e1 : ((i : Int) + 1) = ((i + 1 : Nat) : Int) := by omega
 have n3 : decide ((-1 : Int) < 0) = true := by decide
 rcases hcc with rfl | rfl
 ·have n1 : (((88 : UInt8).toNat : Int) != 88) = false := by decide
  repeat' (first | refine awp_seq_k fun K hK => ?_ | ((first | refine awp_region_k (by kernel_rfl) fun R hR => ?_ | refine awp_draw mixed (by kernel_rfl) (by kernel_rfl) fun R hR => ?_); simp only [go_sem, h1, hc2, n1, n3, e1, Int.toNat_natCast]) | ((first | (refine hR _ ?_; clear hR R) | refine awp_skip ?_ | refine awp_exit ?_ | refine awp_ret ?_); try simp only [thenA, inBlockA, reduceIte, reduceCtorEq, Nat.reduceEqDiff, if_false, if_true]) | ((first | refine hK _ ?_ | (clear hK K; first | refine hK _ ?_ | (clear hK K; first | refine hK _ ?_ | (clear hK K; first | refine hK _ ?_ | (clear hK K; refine hK _ ?_))))); clear hK K) | refine awp_true rfl rfl ?_ | refine awp_false rfl rfl ?_ | refine awp_block ?_ | ((first | refine CallK.pure (enter53) (hN) ?_ ?_ | refine CallD.pure (enter53) (hN) ?_ ?_); (focus first | ((repeat (first | exact trivial | refine ⟨(by first | exact Or.inl rfl | exact Or.inr rfl), ?_⟩)); done) | (simp only [coL, AV.dat, true_or, or_true, AV.d.injEq, go_sem]; done)); simp only [go_sem, h1, hc2, n1, n3, e1, Int.toNat_natCast]) | refine And.intro (by first | ((repeat' first | omega | exact trivial | rfl | assumption | (intro a e; subst e; rfl) | exact map_sz fun a => (by simp only [go_sem]) | refine And.intro ?_ ?_); done) | fail) ?_ | fail)
  (first | refine ret_pure ?_ ?_ ?_ | refine ret_ro ?_ ?_ ?_); focus exact (by simp only [Tryd.results37, resOkL, resOk, Tryd.ntmps37, List.toList_toArray]; first | decide | (simp only [go_sem]; done) | (simp only [go_sem]; and_intros <;> first | omega | rfl | decide))
  rotate_left; focus exact (by repeat (first | exact Fr.rfl' _ _ | assumption | refine Fr.updk ?_ (by omega) _ | refine Fr.stH ?_ _ (by intro n hn; simp only [List.mem_cons, List.not_mem_nil, or_false] at hn; subst hn; simp only; omega)))
  simp only [resA, resV, Tryd.results37, go_sem]
  all_goals try (first | exact Co.t2 (.dat rfl) (.dat rfl) | exact Co.t3 (.dat rfl) (.dat rfl) (.dat rfl))
  exact Co.t2 (co_tm rfl) (.dat rfl)
 ·have n1 : (((102 : UInt8).toNat : Int) != 88) = true := by decide
  have n2 : (((102 : UInt8).toNat : Int) != 102) = false := by decide
  repeat' (first | refine awp_seq_k fun K hK => ?_ | ((first | refine awp_region_k (by kernel_rfl) fun R hR => ?_ | refine awp_draw mixed (by kernel_rfl) (by kernel_rfl) fun R hR => ?_); simp only [go_sem, h1, hc2, n1, n2, n3, e1, Int.toNat_natCast]) | ((first | (refine hR _ ?_; clear hR R) | refine awp_skip ?_ | refine awp_exit ?_ | refine awp_ret ?_); try simp only [thenA, inBlockA, reduceIte, reduceCtorEq, Nat.reduceEqDiff, if_false, if_true]) | ((first | refine hK _ ?_ | (clear hK K; first | refine hK _ ?_ | (clear hK K; first | refine hK _ ?_ | (clear hK K; first | refine hK _ ?_ | (clear hK K; refine hK _ ?_))))); clear hK K) | refine awp_true rfl rfl ?_ | refine awp_false rfl rfl ?_ | refine awp_block ?_ | ((first | refine CallK.pure (enter53) (hN) ?_ ?_ | refine CallD.pure (enter53) (hN) ?_ ?_); (focus first | ((repeat (first | exact trivial | refine ⟨(by first | exact Or.inl rfl | exact Or.inr rfl), ?_⟩)); done) | (simp only [coL, AV.dat, true_or, or_true, AV.d.injEq, go_sem]; done)); simp only [go_sem, h1, hc2, n1, n2, n3, e1, Int.toNat_natCast]) | refine And.intro (by first | ((repeat' first | omega | exact trivial | rfl | assumption | (intro a e; subst e; rfl) | exact map_sz fun a => (by simp only [go_sem]) | refine And.intro ?_ ?_); done) | fail) ?_ | fail)
  (first | refine ret_pure ?_ ?_ ?_ | refine ret_ro ?_ ?_ ?_); focus exact (by simp only [Tryd.results37, resOkL, resOk, Tryd.ntmps37, List.toList_toArray]; first | decide | (simp only [go_sem]; done) | (simp only [go_sem]; and_intros <;> first | omega | rfl | decide))
  rotate_left; focus exact (by repeat (first | exact Fr.rfl' _ _ | assumption | refine Fr.updk ?_ (by omega) _ | refine Fr.stH ?_ _ (by intro n hn; simp only [List.mem_cons, List.not_mem_nil, or_false] at hn; subst hn; simp only; omega)))
  simp only [resA, resV, Tryd.results37, go_sem]
  all_goals try (first | exact Co.t2 (.dat rfl) (.dat rfl) | exact Co.t3 (.dat rfl) (.dat rfl) (.dat rfl))
  exact Co.t2 (co_tm rfl) (.dat rfl)
set_option maxHeartbeats 4000000 in
set_option maxRecDepth 20000 in
theorem ta_var (l : By) (i : Nat) (hl : l.length ≤ 4000000) (hc : l[i]? = some 88) (n j : Nat) (hn : rdN l (i + 1) = some (n, j)) : Tri Tryd.prog 37 [sA l, iA i] (pure' (.tup [.d (tmDV (if n = 0 then .mk 0 0 [] else .mk n 0 [])), iA (if n = 0 then -1 else j)])) := by
 have hlt := (List.getElem?_eq_some_iff.1 hc).1
 have hc2 := byteAt_bs hc
 have hN := numberAt_tri l (i + 1) hl hlt
 have hna : naAns l (i + 1) = ((n : Int), j) := by unfold naAns; rw [hn]
 rw [hna] at hN
 have hnl := rdN_lt hn
 refine tri_enter Tryd.func37 rfl Tryd.ntmps37 (by simp only [List.length_cons, List.length_nil]; omega) fun w0 h0 k hrd hwr => ?_
 have h1 : decide ((i : Int) ≥ (l.length : Int)) = false := by simp; omega
 have hi1 : (i : Int) < (l.length : Int) := by omega
 have e1 : ((i : Int) + 1) = ((i + 1 : Nat) : Int) := by omega
 have n3 : decide ((n : Int) < 0) = false := by simp
 have n1 : (((88 : UInt8).toNat : Int) != 88) = false := by decide
 have n4 : (((88 : UInt8).toNat : Int) == 88) = true := by decide
 cases hz : ((n : Int) == 0) with
 | true =>
  have hz' : n = 0 := by simp at hz; omega
  rw [if_pos hz', if_pos hz']
  repeat' (first | refine awp_seq_k fun K hK => ?_ | ((first | refine awp_region_k (by kernel_rfl) fun R hR => ?_ | refine awp_draw mixed (by kernel_rfl) (by kernel_rfl) fun R hR => ?_); simp only [go_sem, h1, hc2, n1, n3, n4, hz, e1, Int.toNat_natCast]) | ((first | (refine hR _ ?_; clear hR R) | refine awp_skip ?_ | refine awp_exit ?_ | refine awp_ret ?_); try simp only [thenA, inBlockA, reduceIte, reduceCtorEq, Nat.reduceEqDiff, if_false, if_true]) | ((first | refine hK _ ?_ | (clear hK K; first | refine hK _ ?_ | (clear hK K; first | refine hK _ ?_ | (clear hK K; first | refine hK _ ?_ | (clear hK K; refine hK _ ?_))))); clear hK K) | refine awp_true rfl rfl ?_ | refine awp_false rfl rfl ?_ | refine awp_block ?_ | ((first | refine CallK.pure (enter53) (hN) ?_ ?_ | refine CallD.pure (enter53) (hN) ?_ ?_); (focus first | ((repeat (first | exact trivial | refine ⟨(by first | exact Or.inl rfl | exact Or.inr rfl), ?_⟩)); done) | (simp only [coL, AV.dat, true_or, or_true, AV.d.injEq, go_sem]; done)); simp only [go_sem, h1, hc2, n1, n3, n4, hz, e1, Int.toNat_natCast]) | refine And.intro (by first | ((repeat' first | omega | exact trivial | rfl | assumption | (intro a e; subst e; rfl) | exact map_sz fun a => (by simp only [go_sem]) | refine And.intro ?_ ?_); done) | fail) ?_ | fail)
  (first | refine ret_pure ?_ ?_ ?_ | refine ret_ro ?_ ?_ ?_); focus exact (by simp only [Tryd.results37, resOkL, resOk, Tryd.ntmps37, List.toList_toArray]; first | decide | (simp only [go_sem]; done) | (simp only [go_sem]; and_intros <;> first | omega | rfl | decide))
  rotate_left; focus exact (by repeat (first | exact Fr.rfl' _ _ | assumption | refine Fr.updk ?_ (by omega) _ | refine Fr.stH ?_ _ (by intro n hn; simp only [List.mem_cons, List.not_mem_nil, or_false] at hn; subst hn; simp only; omega)))
  simp only [resA, resV, Tryd.results37, go_sem]
  all_goals try (first | exact Co.t2 (.dat rfl) (.dat rfl) | exact Co.t3 (.dat rfl) (.dat rfl) (.dat rfl))
  exact Co.t2 (co_tm rfl) (.dat rfl)
 | false =>
  have hz' : ¬ n = 0 := by simp at hz; omega
  rw [if_neg hz', if_neg hz']
  repeat' (first | refine awp_seq_k fun K hK => ?_ | ((first | refine awp_region_k (by kernel_rfl) fun R hR => ?_ | refine awp_draw mixed (by kernel_rfl) (by kernel_rfl) fun R hR => ?_); simp only [go_sem, h1, hc2, n1, n3, n4, hz, e1, Int.toNat_natCast]) | ((first | (refine hR _ ?_; clear hR R) | refine awp_skip ?_ | refine awp_exit ?_ | refine awp_ret ?_); try simp only [thenA, inBlockA, reduceIte, reduceCtorEq, Nat.reduceEqDiff, if_false, if_true]) | ((first | refine hK _ ?_ | (clear hK K; first | refine hK _ ?_ | (clear hK K; first | refine hK _ ?_ | (clear hK K; first | refine hK _ ?_ | (clear hK K; refine hK _ ?_))))); clear hK K) | refine awp_true rfl rfl ?_ | refine awp_false rfl rfl ?_ | refine awp_block ?_ | ((first | refine CallK.pure (enter53) (hN) ?_ ?_ | refine CallD.pure (enter53) (hN) ?_ ?_); (focus first | ((repeat (first | exact trivial | refine ⟨(by first | exact Or.inl rfl | exact Or.inr rfl), ?_⟩)); done) | (simp only [coL, AV.dat, true_or, or_true, AV.d.injEq, go_sem]; done)); simp only [go_sem, h1, hc2, n1, n3, n4, hz, e1, Int.toNat_natCast]) | refine And.intro (by first | ((repeat' first | omega | exact trivial | rfl | assumption | (intro a e; subst e; rfl) | exact map_sz fun a => (by simp only [go_sem]) | refine And.intro ?_ ?_); done) | fail) ?_ | fail)
  (first | refine ret_pure ?_ ?_ ?_ | refine ret_ro ?_ ?_ ?_); focus exact (by simp only [Tryd.results37, resOkL, resOk, Tryd.ntmps37, List.toList_toArray]; first | decide | (simp only [go_sem]; done) | (simp only [go_sem]; and_intros <;> first | omega | rfl | decide))
  rotate_left; focus exact (by repeat (first | exact Fr.rfl' _ _ | assumption | refine Fr.updk ?_ (by omega) _ | refine Fr.stH ?_ _ (by intro n hn; simp only [List.mem_cons, List.not_mem_nil, or_false] at hn; subst hn; simp only; omega)))
  simp only [resA, resV, Tryd.results37, go_sem]
  all_goals try (first | exact Co.t2 (.dat rfl) (.dat rfl) | exact Co.t3 (.dat rfl) (.dat rfl) (.dat rfl))
  exact Co.t2 (co_tm rfl) (.dat rfl)
set_option maxHeartbeats 4000000 in
set_option maxRecDepth 20000 in
theorem ta_fn0 (l : By) (i : Nat) (hl : l.length ≤ 4000000) (hc : l[i]? = some 102) (n j : Nat) (hn : rdN l (i + 1) = some (n, j)) (hp : hasAt l j [40] = false) : Tri Tryd.prog 37 [sA l, iA i] (pure' (.tup [.d (tmDV (.mk 0 n [])), iA j])) := by
 have hlt := (List.getElem?_eq_some_iff.1 hc).1
 have hc2 := byteAt_bs hc
 have hN := numberAt_tri l (i + 1) hl hlt
 have hna : naAns l (i + 1) = ((n : Int), j) := by unfold naAns; rw [hn]
 rw [hna] at hN
 have hnl := rdN_lt hn
 have hjl := rdN_le hn hlt
 refine tri_enter Tryd.func37 rfl Tryd.ntmps37 (by simp only [List.length_cons, List.length_nil]; omega) fun w0 h0 k hrd hwr => ?_
 have h1 : decide ((i : Int) ≥ (l.length : Int)) = false := by simp; omega
 have hi1 : (i : Int) < (l.length : Int) := by omega
 have e1 : ((i : Int) + 1) = ((i + 1 : Nat) : Int) := by omega
 have n3 : decide ((n : Int) < 0) = false := by simp
 have n1 : (((102 : UInt8).toNat : Int) != 88) = true := by decide
 have n2 : (((102 : UInt8).toNat : Int) != 102) = false := by decide
 have n4 : (((102 : UInt8).toNat : Int) == 88) = false := by decide
 rcases Nat.lt_or_ge j l.length with hjlt | hjge
 ·obtain ⟨d, hd⟩ : ∃ d, l[j]? = some d := ⟨_, List.getElem?_eq_getElem hjlt⟩
  have hd2 := byteAt_bs hd
  have hd40 : d ≠ 40 := by rintro rfl; rw [has_yes hd] at hp; cases hp
  have n5 := byte_ne (n := 40) hd40 rfl
  have h5 : decide ((j : Int) ≥ (l.length : Int)) = false := by simp; omega
  have hj1 : (j : Int) < (l.length : Int) := by omega
  repeat' (first | refine awp_seq_k fun K hK => ?_ | ((first | refine awp_region_k (by kernel_rfl) fun R hR => ?_ | refine awp_draw mixed (by kernel_rfl) (by kernel_rfl) fun R hR => ?_); simp only [go_sem, h1, hc2, n1, n2, n3, n4, n5, h5, hd2, e1, Int.toNat_natCast]) | ((first | (refine hR _ ?_; clear hR R) | refine awp_skip ?_ | refine awp_exit ?_ | refine awp_ret ?_); try simp only [thenA, inBlockA, reduceIte, reduceCtorEq, Nat.reduceEqDiff, if_false, if_true]) | ((first | refine hK _ ?_ | (clear hK K; first | refine hK _ ?_ | (clear hK K; first | refine hK _ ?_ | (clear hK K; first | refine hK _ ?_ | (clear hK K; refine hK _ ?_))))); clear hK K) | refine awp_true rfl rfl ?_ | refine awp_false rfl rfl ?_ | refine awp_block ?_ | ((first | refine CallK.pure (enter53) (hN) ?_ ?_ | refine CallD.pure (enter53) (hN) ?_ ?_); (focus first | ((repeat (first | exact trivial | refine ⟨(by first | exact Or.inl rfl | exact Or.inr rfl), ?_⟩)); done) | (simp only [coL, AV.dat, true_or, or_true, AV.d.injEq, go_sem]; done)); simp only [go_sem, h1, hc2, n1, n2, n3, n4, n5, h5, hd2, e1, Int.toNat_natCast]) | refine And.intro (by first | ((repeat' first | omega | exact trivial | rfl | assumption | (intro a e; subst e; rfl) | exact map_sz fun a => (by simp only [go_sem]) | refine And.intro ?_ ?_); done) | fail) ?_ | fail)
  (first | refine ret_pure ?_ ?_ ?_ | refine ret_ro ?_ ?_ ?_); focus exact (by simp only [Tryd.results37, resOkL, resOk, Tryd.ntmps37, List.toList_toArray]; first | decide | (simp only [go_sem]; done) | (simp only [go_sem]; and_intros <;> first | omega | rfl | decide))
  rotate_left; focus exact (by repeat (first | exact Fr.rfl' _ _ | assumption | refine Fr.updk ?_ (by omega) _ | refine Fr.stH ?_ _ (by intro n hn; simp only [List.mem_cons, List.not_mem_nil, or_false] at hn; subst hn; simp only; omega)))
  simp only [resA, resV, Tryd.results37, go_sem]
  all_goals try (first | exact Co.t2 (.dat rfl) (.dat rfl) | exact Co.t3 (.dat rfl) (.dat rfl) (.dat rfl))
  exact Co.t2 (co_tm rfl) (.dat rfl)
 ·have h5 : decide ((j : Int) ≥ (l.length : Int)) = true := by simp; omega
  repeat' (first | refine awp_seq_k fun K hK => ?_ | ((first | refine awp_region_k (by kernel_rfl) fun R hR => ?_ | refine awp_draw mixed (by kernel_rfl) (by kernel_rfl) fun R hR => ?_); simp only [go_sem, h1, hc2, n1, n2, n3, n4, h5, e1, Int.toNat_natCast]) | ((first | (refine hR _ ?_; clear hR R) | refine awp_skip ?_ | refine awp_exit ?_ | refine awp_ret ?_); try simp only [thenA, inBlockA, reduceIte, reduceCtorEq, Nat.reduceEqDiff, if_false, if_true]) | ((first | refine hK _ ?_ | (clear hK K; first | refine hK _ ?_ | (clear hK K; first | refine hK _ ?_ | (clear hK K; first | refine hK _ ?_ | (clear hK K; refine hK _ ?_))))); clear hK K) | refine awp_true rfl rfl ?_ | refine awp_false rfl rfl ?_ | refine awp_block ?_ | ((first | refine CallK.pure (enter53) (hN) ?_ ?_ | refine CallD.pure (enter53) (hN) ?_ ?_); (focus first | ((repeat (first | exact trivial | refine ⟨(by first | exact Or.inl rfl | exact Or.inr rfl), ?_⟩)); done) | (simp only [coL, AV.dat, true_or, or_true, AV.d.injEq, go_sem]; done)); simp only [go_sem, h1, hc2, n1, n2, n3, n4, h5, e1, Int.toNat_natCast]) | refine And.intro (by first | ((repeat' first | omega | exact trivial | rfl | assumption | (intro a e; subst e; rfl) | exact map_sz fun a => (by simp only [go_sem]) | refine And.intro ?_ ?_); done) | fail) ?_ | fail)
  (first | refine ret_pure ?_ ?_ ?_ | refine ret_ro ?_ ?_ ?_); focus exact (by simp only [Tryd.results37, resOkL, resOk, Tryd.ntmps37, List.toList_toArray]; first | decide | (simp only [go_sem]; done) | (simp only [go_sem]; and_intros <;> first | omega | rfl | decide))
  rotate_left; focus exact (by repeat (first | exact Fr.rfl' _ _ | assumption | refine Fr.updk ?_ (by omega) _ | refine Fr.stH ?_ _ (by intro n hn; simp only [List.mem_cons, List.not_mem_nil, or_false] at hn; subst hn; simp only; omega)))
  simp only [resA, resV, Tryd.results37, go_sem]
  all_goals try (first | exact Co.t2 (.dat rfl) (.dat rfl) | exact Co.t3 (.dat rfl) (.dat rfl) (.dat rfl))
  exact Co.t2 (co_tm rfl) (.dat rfl)
end Go.Proofs.YtmeekpinkfpnhabDoor
