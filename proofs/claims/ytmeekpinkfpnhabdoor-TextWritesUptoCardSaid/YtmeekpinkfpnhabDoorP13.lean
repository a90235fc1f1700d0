/- Texts: superposeref. -/
import Derived.Test.YtmeekpinkfpnhabDoorP07
import Derived.Test.YtmeekpinkfpnhabDoorP08
import Derived.Test.YtmeekpinkfpnhabDoorP09
set_option linter.all false
namespace Go.Proofs.YtmeekpinkfpnhabDoor
open Go.RowKit
theorem co_s {k : Nat} {a b : By} (h : a = b) : Co k none (sA a) (sA b) := by rw [h]; exact .dat rfl
set_option maxHeartbeats 1000000 in
set_option maxRecDepth 20000 in
theorem digits_step (N : Nat) (hN : N ≤ 9223372036854775807) (ih : ∀ M, M < N → Tri Tryd.prog 27 [iA (M : Nat)] (pure' (sA (Lib.decDigits M)))) : Tri Tryd.prog 27 [iA (N : Nat)] (pure' (sA (Lib.decDigits N))) := by
 rw [Lib.decDigits]
 refine tri_enter Tryd.func27 rfl Tryd.ntmps27 (by simp only [List.length_cons, List.length_nil]; omega) fun w0 h0 k hrd hwr => ?_
 cases h : decide ((N : Int) < 10) with
 | true =>
  have h' : N < 10 := by simp at h; omega
  rw [dif_pos h']
  have e1 : IntKind.u8.wrap (48 + (N : Int)) = 48 + N := by rw [IntKind.wrap_u8]; omega
  have e2 : (48 + (N : Int)).toNat = 48 + N := by omega
  have hk : (Tryd.prog).intKind 5 = .u8 := by rfl
  have hb : decide (0 ≤ 48 + (N : Int)) = true := by simp; omega
  have hb' : decide (48 + (N : Int) < 256) = true := by simp; omega
  repeat' (first | refine awp_seq_k fun K hK => ?_ | ((first | refine awp_region_k (by kernel_rfl) fun R hR => ?_ | refine awp_draw mixed (by kernel_rfl) (by kernel_rfl) fun R hR => ?_); simp only [go_sem, h, convA, okConv, isByte, byteOf, hk, e1, e2, hb, hb', Tryd.underlying3, Tryd.underlying5, Tryd.underlying9]) | ((first | (refine hR _ ?_; clear hR R) | refine awp_skip ?_ | refine awp_exit ?_ | refine awp_ret ?_); try simp only [thenA, inBlockA, reduceIte, reduceCtorEq, Nat.reduceEqDiff, if_false, if_true]) | ((first | refine hK _ ?_ | (clear hK K; first | refine hK _ ?_ | (clear hK K; first | refine hK _ ?_ | (clear hK K; first | refine hK _ ?_ | (clear hK K; refine hK _ ?_))))); clear hK K) | refine awp_true rfl rfl ?_ | refine awp_false rfl rfl ?_ | refine awp_block ?_ | refine And.intro (by first | ((repeat' first | omega | exact trivial | rfl | assumption | (intro a e; subst e; rfl) | exact map_sz fun a => (by simp only [go_sem]) | refine And.intro ?_ ?_); done) | fail) ?_ | fail)
  (first | refine ret_pure ?_ ?_ ?_ | refine ret_ro ?_ ?_ ?_); focus exact (by simp only [Tryd.results27, resOkL, resOk, Tryd.ntmps27, List.toList_toArray]; first | decide | (simp only [go_sem]; done) | (simp only [go_sem]; and_intros <;> first | omega | rfl | decide))
  rotate_left; focus exact (by repeat (first | exact Fr.rfl' _ _ | assumption | refine Fr.updk ?_ (by omega) _))
  simp only [resA, resV, Tryd.results27, go_sem]
  all_goals try (first | exact Co.t2 (.dat rfl) (.dat rfl) | exact Co.t3 (.dat rfl) (.dat rfl) (.dat rfl))
  exact co_s rfl
 | false =>
  have h' : ¬ N < 10 := by simp at h; omega
  rw [dif_neg h']
  have q1 : (N : Int).tdiv 10 = ((N / 10 : Nat) : Int) := by rw [Int.natCast_ediv]; exact Int.tdiv_eq_ediv_of_nonneg (by omega)
  have q2 : (N : Int).tmod 10 = ((N % 10 : Nat) : Int) := by rw [Int.natCast_emod]; exact Int.tmod_eq_emod_of_nonneg (by omega)
  have h1 := ih (N / 10) (by omega)
  have h2 := ih (N % 10) (by omega)
  have e3 : Lib.decDigits (N % 10) = [UInt8.ofNat (48 + N % 10)] := by rw [Lib.decDigits, dif_pos (by omega)]
  rw [e3] at h2
  have hl := dig_len (n := N / 10) (by omega)
  repeat' (first | refine awp_seq_k fun K hK => ?_ | ((first | refine awp_region_k (by kernel_rfl) fun R hR => ?_ | refine awp_draw mixed (by kernel_rfl) (by kernel_rfl) fun R hR => ?_); simp only [go_sem, h, q1, q2, List.length_append]) | ((first | (refine hR _ ?_; clear hR R) | refine awp_skip ?_ | refine awp_exit ?_ | refine awp_ret ?_); try simp only [thenA, inBlockA, reduceIte, reduceCtorEq, Nat.reduceEqDiff, if_false, if_true]) | ((first | refine hK _ ?_ | (clear hK K; first | refine hK _ ?_ | (clear hK K; first | refine hK _ ?_ | (clear hK K; first | refine hK _ ?_ | (clear hK K; refine hK _ ?_))))); clear hK K) | refine awp_true rfl rfl ?_ | refine awp_false rfl rfl ?_ | refine awp_block ?_ | ((first | refine CallK.pure (enter27) (h1) ?_ ?_ | refine CallD.pure (enter27) (h1) ?_ ?_); (focus first | ((repeat (first | exact trivial | refine ⟨(by first | exact Or.inl rfl | exact Or.inr rfl), ?_⟩)); done) | (simp only [coL, AV.dat, true_or, or_true, AV.d.injEq, go_sem]; done)); simp only [go_sem, h, q1, q2, List.length_append]) | ((first | refine CallK.pure (enter27) (h2) ?_ ?_ | refine CallD.pure (enter27) (h2) ?_ ?_); (focus first | ((repeat (first | exact trivial | refine ⟨(by first | exact Or.inl rfl | exact Or.inr rfl), ?_⟩)); done) | (simp only [coL, AV.dat, true_or, or_true, AV.d.injEq, go_sem]; done)); simp only [go_sem, h, q1, q2, List.length_append]) | refine And.intro (by first | ((repeat' first | omega | exact trivial | rfl | assumption | (intro a e; subst e; rfl) | exact map_sz fun a => (by simp only [go_sem]) | refine And.intro ?_ ?_); done) | fail) ?_ | fail)
  (first | refine ret_pure ?_ ?_ ?_ | refine ret_ro ?_ ?_ ?_); focus exact (by simp only [Tryd.results27, resOkL, resOk, Tryd.ntmps27, List.toList_toArray]; first | decide | (simp only [go_sem]; done) | (simp only [go_sem]; and_intros <;> first | omega | rfl | decide))
  rotate_left; focus exact (by repeat (first | exact Fr.rfl' _ _ | assumption | refine Fr.updk ?_ (by omega) _))
  simp only [resA, resV, Tryd.results27, go_sem]
  all_goals try (first | exact Co.t2 (.dat rfl) (.dat rfl) | exact Co.t3 (.dat rfl) (.dat rfl) (.dat rfl))
  exact co_s rfl
theorem digits_nat (N : Nat) (hN : N ≤ 9223372036854775807) : Tri Tryd.prog 27 [iA (N : Nat)] (pure' (sA (Lib.decDigits N))) := by
 induction N using Nat.strongRecOn with
 | ind N ih => exact digits_step N hN fun M hM => ih M hM (by omega)
theorem digits_tri (n : Int) (h0 : 0 ≤ n) (h1 : n ≤ 9223372036854775807) : Tri Tryd.prog 27 [iA n] (pure' (sA (dig n))) := by
 obtain ⟨N, rfl⟩ : ∃ N : Nat, n = N := ⟨n.toNat, by omega⟩
 have := digits_nat N (by omega)
 simpa [dig] using this
def WriteSpec (t : Tm) : Prop := smT t → t.size ≤ 4000000 → Tri Tryd.prog 21 [.d (tmDV t)] (pure' (sA (tmT t)))
set_option maxHeartbeats 2000000 in
set_option maxRecDepth 20000 in
theorem write_step (t : Tm) (ih : ∀ u ∈ t.us, WriteSpec u) : WriteSpec t := by
 intro hs hsz
 obtain ⟨v0, v1, f0, f1⟩ := smT_self hs
 have hlen := t.len_lt
 have hdv : (dig t.v).length ≤ 20 := dig_len (n := t.v.toNat) (by omega)
 have hdf : (dig t.f).length ≤ 20 := dig_len (n := t.f.toNat) (by omega)
 rw [tmT_eq]
 refine tri_enter Tryd.func21 rfl Tryd.ntmps21 (by simp only [List.length_cons, List.length_nil]; omega) fun w0 h0 k hrd hwr => ?_
 cases hv : decide (t.v > 0) with
 | true =>
  have hv' : t.v > 0 := by simpa using hv
  rw [if_pos hv']
  repeat' (first | refine awp_seq_k fun K hK => ?_ | ((first | refine awp_region_k (by kernel_rfl) fun R hR => ?_ | refine awp_draw mixed (by kernel_rfl) (by kernel_rfl) fun R hR => ?_); simp only [go_sem, hv]) | ((first | (refine hR _ ?_; clear hR R) | refine awp_skip ?_ | refine awp_exit ?_ | refine awp_ret ?_); try simp only [thenA, inBlockA, reduceIte, reduceCtorEq, Nat.reduceEqDiff, if_false, if_true]) | ((first | refine hK _ ?_ | (clear hK K; first | refine hK _ ?_ | (clear hK K; first | refine hK _ ?_ | (clear hK K; first | refine hK _ ?_ | (clear hK K; refine hK _ ?_))))); clear hK K) | refine awp_true rfl rfl ?_ | refine awp_false rfl rfl ?_ | refine awp_block ?_ | ((first | refine CallK.pure (enter39) (itoa_tri t.v (by omega) (by omega)) ?_ ?_ | refine CallD.pure (enter39) (itoa_tri t.v (by omega) (by omega)) ?_ ?_); (focus first | ((repeat (first | exact trivial | refine ⟨(by first | exact Or.inl rfl | exact Or.inr rfl), ?_⟩)); done) | (simp only [coL, AV.dat, true_or, or_true, AV.d.injEq, go_sem]; done)); simp only [go_sem, hv]) | refine And.intro (by first | ((repeat' first | omega | exact trivial | rfl | assumption | (intro a e; subst e; rfl) | exact map_sz fun a => (by simp only [go_sem]) | refine And.intro ?_ ?_); done) | fail) ?_ | fail)
  (first | refine ret_pure ?_ ?_ ?_ | refine ret_ro ?_ ?_ ?_); focus exact (by simp only [Tryd.results21, resOkL, resOk, Tryd.ntmps21, List.toList_toArray]; first | decide | (simp only [go_sem]; done) | (simp only [go_sem]; and_intros <;> first | omega | rfl | decide))
  rotate_left; focus exact (by repeat (first | exact Fr.rfl' _ _ | assumption | refine Fr.updk ?_ (by omega) _))
  simp only [resA, resV, Tryd.results21, go_sem]
  all_goals try (first | exact Co.t2 (.dat rfl) (.dat rfl) | exact Co.t3 (.dat rfl) (.dat rfl) (.dat rfl))
  exact co_s rfl
 | false =>
  have hv' : ¬ t.v > 0 := by simpa using hv
  rw [if_neg hv']
  cases he : decide (((t.us.length : Nat) : Int) = 0) with
  | true =>
   have he' : t.us = [] := by simpa using he
   have he2 : (((t.us.length : Nat) : Int) == 0) = true := by rw [he']; rfl
   have e4 : argT t.us = [] := by rw [he']; rfl
   rw [e4, List.append_nil]
   repeat' (first | refine awp_seq_k fun K hK => ?_ | ((first | refine awp_region_k (by kernel_rfl) fun R hR => ?_ | refine awp_draw mixed (by kernel_rfl) (by kernel_rfl) fun R hR => ?_); simp only [go_sem, hv, he2]) | ((first | (refine hR _ ?_; clear hR R) | refine awp_skip ?_ | refine awp_exit ?_ | refine awp_ret ?_); try simp only [thenA, inBlockA, reduceIte, reduceCtorEq, Nat.reduceEqDiff, if_false, if_true]) | ((first | refine hK _ ?_ | (clear hK K; first | refine hK _ ?_ | (clear hK K; first | refine hK _ ?_ | (clear hK K; first | refine hK _ ?_ | (clear hK K; refine hK _ ?_))))); clear hK K) | refine awp_true rfl rfl ?_ | refine awp_false rfl rfl ?_ | refine awp_block ?_ | ((first | refine CallK.pure (enter39) (itoa_tri t.f (by omega) (by omega)) ?_ ?_ | refine CallD.pure (enter39) (itoa_tri t.f (by omega) (by omega)) ?_ ?_); (focus first | ((repeat (first | exact trivial | refine ⟨(by first | exact Or.inl rfl | exact Or.inr rfl), ?_⟩)); done) | (simp only [coL, AV.dat, true_or, or_true, AV.d.injEq, go_sem]; done)); simp only [go_sem, hv, he2]) | refine And.intro (by first | ((repeat' first | omega | exact trivial | rfl | assumption | (intro a e; subst e; rfl) | exact map_sz fun a => (by simp only [go_sem]) | refine And.intro ?_ ?_); done) | fail) ?_ | fail)
   (first | refine ret_pure ?_ ?_ ?_ | refine ret_ro ?_ ?_ ?_); focus exact (by simp only [Tryd.results21, resOkL, resOk, Tryd.ntmps21, List.toList_toArray]; first | decide | (simp only [go_sem]; done) | (simp only [go_sem]; and_intros <;> first | omega | rfl | decide))
   rotate_left; focus exact (by repeat (first | exact Fr.rfl' _ _ | assumption | refine Fr.updk ?_ (by omega) _))
   simp only [resA, resV, Tryd.results21, go_sem]
   all_goals try (first | exact Co.t2 (.dat rfl) (.dat rfl) | exact Co.t3 (.dat rfl) (.dat rfl) (.dat rfl))
   exact co_s rfl
  | false =>
   have he' : t.us ≠ [] := by intro h; rw [h] at he; simp at he
   have he2 : (((t.us.length : Nat) : Int) == 0) = false := by
    have : t.us.length ≠ 0 := by simpa using he'
    simpa using this
   have e4 : argT t.us = 40 :: Lib.join (t.us.map tmT) [44] ++ [41] := by unfold argT; rw [if_neg he']
   have hj := join_sum [44] (t.us.map tmT)
   have hj2 : ((t.us.map tmT).map fun x => x.length + ([44] : By).length).sum ≤ (t.us.map fun u => 26 * u.size).sum := by
    rw [List.map_map]
    exact sum_le fun u hu => tmT_len u (smT_arg hs hu)
   rw [sum_mul] at hj2
   have hts : t.size = 1 + (t.us.map Tm.size).sum := by cases t; rw [Tm.size, Tm.sizes_sum]; rfl
   rw [e4]
   repeat' (first | refine awp_ghost (ghost_nil (i := 4) (e := 9) rfl) ?_ | refine awp_seq_k fun K hK => ?_ | ((first | refine awp_region_k (by kernel_rfl) fun R hR => ?_ | refine awp_draw mixed (by kernel_rfl) (by kernel_rfl) fun R hR => ?_); simp only [go_sem, hv, he2]) | ((first | (refine hR _ ?_; clear hR R) | refine awp_skip ?_ | refine awp_exit ?_ | refine awp_ret ?_); try simp only [thenA, inBlockA, reduceIte, reduceCtorEq, Nat.reduceEqDiff, if_false, if_true]) | ((first | refine hK _ ?_ | (clear hK K; first | refine hK _ ?_ | (clear hK K; first | refine hK _ ?_ | (clear hK K; first | refine hK _ ?_ | (clear hK K; refine hK _ ?_))))); clear hK K) | refine awp_true rfl rfl ?_ | refine awp_false rfl rfl ?_ | refine awp_block ?_ | ((first | refine CallK.pure (enter39) (itoa_tri t.f (by omega) (by omega)) ?_ ?_ | refine CallD.pure (enter39) (itoa_tri t.f (by omega) (by omega)) ?_ ?_); (focus first | ((repeat (first | exact trivial | refine ⟨(by first | exact Or.inl rfl | exact Or.inr rfl), ?_⟩)); done) | (simp only [coL, AV.dat, true_or, or_true, AV.d.injEq, go_sem]; done)); simp only [go_sem, hv, he2]) | refine And.intro (by first | ((repeat' first | omega | exact trivial | rfl | assumption | (intro a e; subst e; rfl) | exact map_sz fun a => (by simp only [go_sem]) | refine And.intro ?_ ?_); done) | fail) ?_ | fail)
   refine awp_loop (fun σ => ∃ i : Nat, σ.t 3 = sA (102 :: dig t.f) ∧ σ.t 4 = .own (k + 1 + 1 + 1 + 1 + 1, 0) (((t.us.take i).map tmT).map sD) ∧ σ.t 24 = .d (.sl (t.us.map tmDV)) ∧ σ.t 25 = iA t.us.length ∧ σ.t 26 = iA i ∧ σ.h (k + 1 + 1 + 1 + 1 + 1, 0) = some (.perm 9 i) ∧ Fr k h0 σ.h ∧ k + 1 + 1 + 1 + 1 + 1 < σ.k ∧ i ≤ t.us.length) (fun σ => t.us.length - (intOf' (σ.t 26)).toNat) ?_ ?_
   ·refine ⟨0, ?_⟩
    simp only [go_sem, List.take_zero]
    and_intros; all_goals try (first | rfl | omega | assumption | ((repeat (first | exact Fr.rfl' _ _ | assumption | refine Fr.updk ?_ (by omega) _)); done))
   ·rintro σ ⟨i, s3, s4, s24, s25, s26, sh, hF, hk, hi⟩
    have hne := ltne (show k + 1 + 1 + 1 + 1 + 1 < σ.k by omega)
    have hml : (((t.us.take i).map tmT).map sD).length = i := by simp; omega
    rcases Nat.lt_or_ge i t.us.length with hlt | hge
    ·have hz : (i : Int) < (t.us.length : Int) := by omega
     have e1 : (t.us.map tmDV).getD i default = tmDV t.us[i] := nth_map tmDV hlt _
     have hs1 := Tm.size_at hlt
     have h2 := ih _ (List.getElem_mem hlt) (smT_arg hs (List.getElem_mem hlt)) (by omega)
     have etk : ((t.us.take i).map tmT).map sD ++ [sD (tmT t.us[i])] = ((t.us.take (i + 1)).map tmT).map sD := by rw [List.take_succ_eq_append_getElem hlt, List.map_append, List.map_append]; rfl
     have htl : (t.us.take (i + 1)).length = i + 1 := by rw [List.length_take]; omega
     repeat' (first | refine awp_seq_k fun K hK => ?_ | ((first | refine awp_region_k (by kernel_rfl) fun R hR => ?_ | refine awp_draw mixed (by kernel_rfl) (by kernel_rfl) fun R hR => ?_); simp only [go_sem, s3, s4, s24, s25, s26, sh, hz, e1, hne, hml, List.length_map, Int.toNat_natCast]) | ((first | (refine hR _ ?_; clear hR R) | refine awp_skip ?_ | refine awp_exit ?_ | refine awp_ret ?_); try simp only [thenA, inBlockA, reduceIte, reduceCtorEq, Nat.reduceEqDiff, if_false, if_true]) | ((first | refine hK _ ?_ | (clear hK K; first | refine hK _ ?_ | (clear hK K; first | refine hK _ ?_ | (clear hK K; first | refine hK _ ?_ | (clear hK K; refine hK _ ?_))))); clear hK K) | refine awp_true rfl rfl ?_ | refine awp_false rfl rfl ?_ | refine awp_block ?_ | ((first | refine CallK.pure (enter21) (h2) ?_ ?_ | refine CallD.pure (enter21) (h2) ?_ ?_); (focus first | ((repeat (first | exact trivial | refine ⟨(by first | exact Or.inl rfl | exact Or.inr rfl), ?_⟩)); done) | (simp only [coL, AV.dat, true_or, or_true, AV.d.injEq, go_sem]; done)); simp only [go_sem, s3, s4, s24, s25, s26, sh, hz, e1, hne, hml, List.length_map, Int.toNat_natCast]) | refine And.intro (by first | ((repeat' first | omega | exact trivial | rfl | assumption | (intro a e; subst e; rfl) | exact map_sz fun a => (by simp only [go_sem]) | refine And.intro ?_ ?_); done) | fail) ?_ | fail)
     refine ⟨⟨i + 1, ?_⟩, ?_⟩
     rotate_left
     ·simp only [go_sem, s3, s4, s24, s25, s26, sh, hne, etk, hml, htl, List.length_map]; omega
     simp only [go_sem, s3, s4, s24, s25, s26, sh, hne, etk, hml, htl, List.length_map]
     and_intros; all_goals try (first | rfl | omega | assumption | ((repeat (first | exact Fr.rfl' _ _ | assumption | refine Fr.updk ?_ (by omega) _)); done))
    ·have hz : ¬ ((i : Int) < (t.us.length : Int)) := by omega
     obtain rfl : i = t.us.length := by omega
     rw [List.take_length] at s4
     repeat' (first | refine awp_seq_k fun K hK => ?_ | ((first | refine awp_region_k (by kernel_rfl) fun R hR => ?_ | refine awp_draw mixed (by kernel_rfl) (by kernel_rfl) fun R hR => ?_); simp only [go_sem, s3, s4, s24, s25, s26, sh, hz, hne, List.length_append, List.length_cons]) | ((first | (refine hR _ ?_; clear hR R) | refine awp_skip ?_ | refine awp_exit ?_ | refine awp_ret ?_); try simp only [thenA, inBlockA, reduceIte, reduceCtorEq, Nat.reduceEqDiff, if_false, if_true]) | ((first | refine hK _ ?_ | (clear hK K; first | refine hK _ ?_ | (clear hK K; first | refine hK _ ?_ | (clear hK K; first | refine hK _ ?_ | (clear hK K; refine hK _ ?_))))); clear hK K) | refine awp_true rfl rfl ?_ | refine awp_false rfl rfl ?_ | refine awp_block ?_ | ((first | refine CallK.pure (enter24) (join_tri (t.us.map tmT) [44] (by simp; omega) (by omega)) ?_ ?_ | refine CallD.pure (enter24) (join_tri (t.us.map tmT) [44] (by simp; omega) (by omega)) ?_ ?_); (focus first | ((repeat (first | exact trivial | refine ⟨(by first | exact Or.inl rfl | exact Or.inr rfl), ?_⟩)); done) | (simp only [coL, AV.dat, true_or, or_true, AV.d.injEq, go_sem]; done)); simp only [go_sem, s3, s4, s24, s25, s26, sh, hz, hne, List.length_append, List.length_cons]) | refine And.intro (by first | ((repeat' first | omega | exact trivial | rfl | assumption | (intro a e; subst e; rfl) | exact map_sz fun a => (by simp only [go_sem]) | refine And.intro ?_ ?_); done) | fail) ?_ | fail)
     (first | refine ret_pure ?_ ?_ ?_ | refine ret_ro ?_ ?_ ?_); focus exact (by simp only [Tryd.results21, resOkL, resOk, Tryd.ntmps21, List.toList_toArray]; first | decide | (simp only [go_sem, hne]; done) | (simp only [go_sem, hne]; and_intros <;> first | omega | rfl | decide))
     rotate_left; focus exact (by repeat (first | exact Fr.rfl' _ _ | assumption | refine Fr.updk ?_ (by omega) _))
     simp only [resA, resV, Tryd.results21, go_sem, hne]
     all_goals try (first | exact Co.t2 (.dat rfl) (.dat rfl) | exact Co.t3 (.dat rfl) (.dat rfl) (.dat rfl))
     exact co_s (by simp)
theorem write_tri : ∀ t : Tm, WriteSpec t := Tm.ind write_step
def TextSpec (t : Tm) : Prop := smT t → t.size ≤ 4000000 → Tri Tryd.prog 11 [.d (tmDV t)] (pure' (sA (tmT t)))
set_option maxHeartbeats 2000000 in
set_option maxRecDepth 20000 in
theorem text_step (t : Tm) (ih : ∀ u ∈ t.us, TextSpec u) : TextSpec t := by
 intro hs hsz
 obtain ⟨v0, v1, f0, f1⟩ := smT_self hs
 have hlen := t.len_lt
 have hdv : (dig t.v).length ≤ 20 := dig_len (n := t.v.toNat) (by omega)
 have hdf : (dig t.f).length ≤ 20 := dig_len (n := t.f.toNat) (by omega)
 have hts : t.size = 1 + (t.us.map Tm.size).sum := by cases t; rw [Tm.size, Tm.sizes_sum]; rfl
 rw [tmT_eq]
 refine tri_enter Tryd.func11 rfl Tryd.ntmps11 (by simp only [List.length_cons, List.length_nil]; omega) fun w0 h0 k hrd hwr => ?_
 cases hv : decide (t.v > 0) with
 | true =>
  have hv' : t.v > 0 := by simpa using hv
  rw [if_pos hv']
  repeat' (first | refine awp_seq_k fun K hK => ?_ | ((first | refine awp_region_k (by kernel_rfl) fun R hR => ?_ | refine awp_draw mixed (by kernel_rfl) (by kernel_rfl) fun R hR => ?_); simp only [go_sem, hv]) | ((first | (refine hR _ ?_; clear hR R) | refine awp_skip ?_ | refine awp_exit ?_ | refine awp_ret ?_); try simp only [thenA, inBlockA, reduceIte, reduceCtorEq, Nat.reduceEqDiff, if_false, if_true]) | ((first | refine hK _ ?_ | (clear hK K; first | refine hK _ ?_ | (clear hK K; first | refine hK _ ?_ | (clear hK K; first | refine hK _ ?_ | (clear hK K; refine hK _ ?_))))); clear hK K) | refine awp_true rfl rfl ?_ | refine awp_false rfl rfl ?_ | refine awp_block ?_ | ((first | refine CallK.pure (enter27) (digits_tri t.v (by omega) (by omega)) ?_ ?_ | refine CallD.pure (enter27) (digits_tri t.v (by omega) (by omega)) ?_ ?_); (focus first | ((repeat (first | exact trivial | refine ⟨(by first | exact Or.inl rfl | exact Or.inr rfl), ?_⟩)); done) | (simp only [coL, AV.dat, true_or, or_true, AV.d.injEq, go_sem]; done)); simp only [go_sem, hv]) | refine And.intro (by first | ((repeat' first | omega | exact trivial | rfl | assumption | (intro a e; subst e; rfl) | exact map_sz fun a => (by simp only [go_sem]) | refine And.intro ?_ ?_); done) | fail) ?_ | fail)
  (first | refine ret_pure ?_ ?_ ?_ | refine ret_ro ?_ ?_ ?_); focus exact (by simp only [Tryd.results11, resOkL, resOk, Tryd.ntmps11, List.toList_toArray]; first | decide | (simp only [go_sem]; done) | (simp only [go_sem]; and_intros <;> first | omega | rfl | decide))
  rotate_left; focus exact (by repeat (first | exact Fr.rfl' _ _ | assumption | refine Fr.updk ?_ (by omega) _))
  simp only [resA, resV, Tryd.results11, go_sem]
  all_goals try (first | exact Co.t2 (.dat rfl) (.dat rfl) | exact Co.t3 (.dat rfl) (.dat rfl) (.dat rfl))
  exact co_s rfl
 | false =>
  have hv' : ¬ t.v > 0 := by simpa using hv
  rw [if_neg hv']
  repeat' (first | refine awp_seq_k fun K hK => ?_ | ((first | refine awp_region_k (by kernel_rfl) fun R hR => ?_ | refine awp_draw mixed (by kernel_rfl) (by kernel_rfl) fun R hR => ?_); simp only [go_sem, hv]) | ((first | (refine hR _ ?_; clear hR R) | refine awp_skip ?_ | refine awp_exit ?_ | refine awp_ret ?_); try simp only [thenA, inBlockA, reduceIte, reduceCtorEq, Nat.reduceEqDiff, if_false, if_true]) | ((first | refine hK _ ?_ | (clear hK K; first | refine hK _ ?_ | (clear hK K; first | refine hK _ ?_ | (clear hK K; first | refine hK _ ?_ | (clear hK K; refine hK _ ?_))))); clear hK K) | refine awp_true rfl rfl ?_ | refine awp_false rfl rfl ?_ | refine awp_block ?_ | ((first | refine CallK.pure (enter27) (digits_tri t.f (by omega) (by omega)) ?_ ?_ | refine CallD.pure (enter27) (digits_tri t.f (by omega) (by omega)) ?_ ?_); (focus first | ((repeat (first | exact trivial | refine ⟨(by first | exact Or.inl rfl | exact Or.inr rfl), ?_⟩)); done) | (simp only [coL, AV.dat, true_or, or_true, AV.d.injEq, go_sem]; done)); simp only [go_sem, hv]) | refine And.intro (by first | ((repeat' first | omega | exact trivial | rfl | assumption | (intro a e; subst e; rfl) | exact map_sz fun a => (by simp only [go_sem]) | refine And.intro ?_ ?_); done) | fail) ?_ | fail)
  refine awp_loop (fun σ => ∃ i : Nat, σ.t 1 = .ptr (k, 0) 0 ∧ σ.t 3 = sA (102 :: dig t.f ++ preT t.us i) ∧ σ.t 4 = iA i ∧ σ.h (k, 0) = some (.cells 27 [iA t.v, iA t.f, .d (.sl (t.us.map tmDV))]) ∧ Fr k h0 σ.h ∧ k < σ.k ∧ i ≤ t.us.length) (fun σ => t.us.length - (intOf' (σ.t 4)).toNat) ?_ ?_
  ·refine ⟨0, ?_⟩
   simp only [go_sem, preT]
   and_intros; all_goals try (first | rfl | omega | assumption | ((repeat (first | exact Fr.rfl' _ _ | assumption | refine Fr.updk ?_ (by omega) _)); done))
  ·rintro σ ⟨i, s1, s3, s4, sh, hF, hk, hi⟩
   have hne := ltne hk
   have hpl := preT_len (us := t.us) (fun u hu => smT_arg hs hu) i
   rcases Nat.lt_or_ge i t.us.length with hlt | hge
   ·have hz : (i : Int) < (t.us.length : Int) := by omega
    have e1 : (t.us.map tmDV).getD i default = tmDV t.us[i] := nth_map tmDV hlt _
    have hs1 := Tm.size_at hlt
    have h2 := ih _ (List.getElem_mem hlt) (smT_arg hs (List.getElem_mem hlt)) (by omega)
    have hl2 := tmT_len _ (smT_arg hs (List.getElem_mem hlt))
    have hp := preT_succ hlt
    by_cases h0 : i = 0
    ·subst h0
     have hz0 : (((0 : Nat) : Int) == 0) = true := rfl
     rw [if_pos rfl] at hp
     repeat' (first | refine awp_seq_k fun K hK => ?_ | ((first | refine awp_region_k (by kernel_rfl) fun R hR => ?_ | refine awp_draw mixed (by kernel_rfl) (by kernel_rfl) fun R hR => ?_); simp only [go_sem, s1, s3, s4, sh, hz, hz0, e1, hne, List.length_append, List.length_cons, Int.toNat_natCast]) | ((first | (refine hR _ ?_; clear hR R) | refine awp_skip ?_ | refine awp_exit ?_ | refine awp_ret ?_); try simp only [thenA, inBlockA, reduceIte, reduceCtorEq, Nat.reduceEqDiff, if_false, if_true]) | ((first | refine hK _ ?_ | (clear hK K; first | refine hK _ ?_ | (clear hK K; first | refine hK _ ?_ | (clear hK K; first | refine hK _ ?_ | (clear hK K; refine hK _ ?_))))); clear hK K) | refine awp_true rfl rfl ?_ | refine awp_false rfl rfl ?_ | refine awp_block ?_ | ((first | refine CallK.pure (enter11) (h2) ?_ ?_ | refine CallD.pure (enter11) (h2) ?_ ?_); (focus first | ((repeat (first | exact trivial | refine ⟨(by first | exact Or.inl rfl | exact Or.inr rfl), ?_⟩)); done) | (simp only [coL, AV.dat, true_or, or_true, AV.d.injEq, go_sem]; done)); simp only [go_sem, s1, s3, s4, sh, hz, hz0, e1, hne, List.length_append, List.length_cons, Int.toNat_natCast]) | refine And.intro (by first | ((repeat' first | omega | exact trivial | rfl | assumption | (intro a e; subst e; rfl) | exact map_sz fun a => (by simp only [go_sem]) | refine And.intro ?_ ?_); done) | fail) ?_ | fail)
     refine ⟨⟨0 + 1, ?_⟩, ?_⟩
     rotate_left
     ·simp only [go_sem, s1, s3, s4, sh, hp]; omega
     simp only [go_sem, s1, s3, s4, sh, hp]
     and_intros; all_goals try (first | rfl | omega | assumption | ((repeat (first | exact Fr.rfl' _ _ | assumption | refine Fr.updk ?_ (by omega) _)); done))
    ·have hz0 : ((i : Int) == 0) = false := by simpa using h0
     rw [if_neg h0] at hp
     repeat' (first | refine awp_seq_k fun K hK => ?_ | ((first | refine awp_region_k (by kernel_rfl) fun R hR => ?_ | refine awp_draw mixed (by kernel_rfl) (by kernel_rfl) fun R hR => ?_); simp only [go_sem, s1, s3, s4, sh, hz, hz0, e1, hne, List.length_append, List.length_cons, Int.toNat_natCast]) | ((first | (refine hR _ ?_; clear hR R) | refine awp_skip ?_ | refine awp_exit ?_ | refine awp_ret ?_); try simp only [thenA, inBlockA, reduceIte, reduceCtorEq, Nat.reduceEqDiff, if_false, if_true]) | ((first | refine hK _ ?_ | (clear hK K; first | refine hK _ ?_ | (clear hK K; first | refine hK _ ?_ | (clear hK K; first | refine hK _ ?_ | (clear hK K; refine hK _ ?_))))); clear hK K) | refine awp_true rfl rfl ?_ | refine awp_false rfl rfl ?_ | refine awp_block ?_ | ((first | refine CallK.pure (enter11) (h2) ?_ ?_ | refine CallD.pure (enter11) (h2) ?_ ?_); (focus first | ((repeat (first | exact trivial | refine ⟨(by first | exact Or.inl rfl | exact Or.inr rfl), ?_⟩)); done) | (simp only [coL, AV.dat, true_or, or_true, AV.d.injEq, go_sem]; done)); simp only [go_sem, s1, s3, s4, sh, hz, hz0, e1, hne, List.length_append, List.length_cons, Int.toNat_natCast]) | refine And.intro (by first | ((repeat' first | omega | exact trivial | rfl | assumption | (intro a e; subst e; rfl) | exact map_sz fun a => (by simp only [go_sem]) | refine And.intro ?_ ?_); done) | fail) ?_ | fail)
     refine ⟨⟨i + 1, ?_⟩, ?_⟩
     rotate_left
     ·simp only [go_sem, s1, s3, s4, sh, hp]; omega
     simp only [go_sem, s1, s3, s4, sh, hp]
     and_intros; all_goals try (first | rfl | omega | assumption | ((repeat (first | exact Fr.rfl' _ _ | assumption | refine Fr.updk ?_ (by omega) _)); done))
   ·have hz : ¬ ((i : Int) < (t.us.length : Int)) := by omega
    obtain rfl : i = t.us.length := by omega
    by_cases he : t.us = []
    ·have hl0 : decide (((t.us.length : Nat) : Int) > 0) = false := by rw [he]; rfl
     have e4 : argT t.us = [] := by rw [he]; rfl
     have e5 : preT t.us t.us.length = [] := by rw [he]; rfl
     rw [e5] at s3
     repeat' (first | refine awp_seq_k fun K hK => ?_ | ((first | refine awp_region_k (by kernel_rfl) fun R hR => ?_ | refine awp_draw mixed (by kernel_rfl) (by kernel_rfl) fun R hR => ?_); simp only [go_sem, s1, s3, s4, sh, hz, hne, hl0, List.length_map]) | ((first | (refine hR _ ?_; clear hR R) | refine awp_skip ?_ | refine awp_exit ?_ | refine awp_ret ?_); try simp only [thenA, inBlockA, reduceIte, reduceCtorEq, Nat.reduceEqDiff, if_false, if_true]) | ((first | refine hK _ ?_ | (clear hK K; first | refine hK _ ?_ | (clear hK K; first | refine hK _ ?_ | (clear hK K; first | refine hK _ ?_ | (clear hK K; refine hK _ ?_))))); clear hK K) | refine awp_true rfl rfl ?_ | refine awp_false rfl rfl ?_ | refine awp_block ?_ | refine And.intro (by first | ((repeat' first | omega | exact trivial | rfl | assumption | (intro a e; subst e; rfl) | exact map_sz fun a => (by simp only [go_sem]) | refine And.intro ?_ ?_); done) | fail) ?_ | fail)
     (first | refine ret_pure ?_ ?_ ?_ | refine ret_ro ?_ ?_ ?_); focus exact (by simp only [Tryd.results11, resOkL, resOk, Tryd.ntmps11, List.toList_toArray]; first | decide | (simp only [go_sem]; done) | (simp only [go_sem]; and_intros <;> first | omega | rfl | decide))
     rotate_left; focus exact (by repeat (first | exact Fr.rfl' _ _ | assumption | refine Fr.updk ?_ (by omega) _))
     simp only [resA, resV, Tryd.results11, go_sem]
     all_goals try (first | exact Co.t2 (.dat rfl) (.dat rfl) | exact Co.t3 (.dat rfl) (.dat rfl) (.dat rfl))
     exact co_s (by rw [e4, List.append_nil])
    ·have hl0 : decide (((t.us.length : Nat) : Int) > 0) = true := by
      have : t.us.length ≠ 0 := by simpa using he
      simp; omega
     repeat' (first | refine awp_seq_k fun K hK => ?_ | ((first | refine awp_region_k (by kernel_rfl) fun R hR => ?_ | refine awp_draw mixed (by kernel_rfl) (by kernel_rfl) fun R hR => ?_); simp only [go_sem, s1, s3, s4, sh, hz, hne, hl0, List.length_map, List.length_append, List.length_cons]) | ((first | (refine hR _ ?_; clear hR R) | refine awp_skip ?_ | refine awp_exit ?_ | refine awp_ret ?_); try simp only [thenA, inBlockA, reduceIte, reduceCtorEq, Nat.reduceEqDiff, if_false, if_true]) | ((first | refine hK _ ?_ | (clear hK K; first | refine hK _ ?_ | (clear hK K; first | refine hK _ ?_ | (clear hK K; first | refine hK _ ?_ | (clear hK K; refine hK _ ?_))))); clear hK K) | refine awp_true rfl rfl ?_ | refine awp_false rfl rfl ?_ | refine awp_block ?_ | refine And.intro (by first | ((repeat' first | omega | exact trivial | rfl | assumption | (intro a e; subst e; rfl) | exact map_sz fun a => (by simp only [go_sem]) | refine And.intro ?_ ?_); done) | fail) ?_ | fail)
     (first | refine ret_pure ?_ ?_ ?_ | refine ret_ro ?_ ?_ ?_); focus exact (by simp only [Tryd.results11, resOkL, resOk, Tryd.ntmps11, List.toList_toArray]; first | decide | (simp only [go_sem]; done) | (simp only [go_sem]; and_intros <;> first | omega | rfl | decide))
     rotate_left; focus exact (by repeat (first | exact Fr.rfl' _ _ | assumption | refine Fr.updk ?_ (by omega) _))
     simp only [resA, resV, Tryd.results11, go_sem]
     all_goals try (first | exact Co.t2 (.dat rfl) (.dat rfl) | exact Co.t3 (.dat rfl) (.dat rfl) (.dat rfl))
     exact co_s (by rw [preT_end he])
theorem text_tri : ∀ t : Tm, TextSpec t := Tm.ind text_step
end Go.Proofs.YtmeekpinkfpnhabDoor
