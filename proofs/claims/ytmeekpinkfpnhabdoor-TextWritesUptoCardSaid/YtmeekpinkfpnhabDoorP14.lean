/- Texts: text. -/
import Derived.Test.YtmeekpinkfpnhabDoorP11
import Derived.Test.YtmeekpinkfpnhabDoorP13
set_option linter.all false
namespace Go.Proofs.YtmeekpinkfpnhabDoor
open Go.RowKit
theorem smT_lits {g : List Int} {c : List Lt} (hs : sigOk g = 0) (hc : clOk g c = 0) : c.length ≤ 8 ∧ ∀ l ∈ c, (smT l.a ∧ l.a.size ≤ 120) ∧ (smT l.b ∧ l.b.size ≤ 120) := by
 obtain ⟨h1, h2⟩ := clOk_all hc
 have sz : ∀ t, own g t = 0 → smT t ∧ t.size ≤ 120 := fun t h => ⟨smT_own hs h, by rw [← parts_len]; exact own_parts h⟩
 exact ⟨h1, fun l hl => ⟨sz _ (h2 l hl).1, sz _ (h2 l hl).2⟩⟩
def termAns (g : List Int) (t : Tm) : By × Int := if allOk g [t] ≠ 0 then ([], allOk g [t]) else (tmT t, 0)
set_option maxHeartbeats 1000000 in
set_option maxRecDepth 20000 in
theorem textTerm_tri (g : List Int) (t : Tm) : Tri Tryd.prog 6 [.d (sgDV g), .d (tmDV t)] (pure' (.tup [sA (termAns g t).1, iA (termAns g t).2])) := by
 unfold termAns
 refine tri_enter Tryd.func6 rfl Tryd.ntmps6 (by simp only [List.length_cons, List.length_nil]; omega) fun w0 h0 k hrd hwr => ?_
 have ha := all_tri g [t]
 cases hv : allOk g [t] == 0 with
 | true =>
  have hv' : allOk g [t] = 0 := by simpa using hv
  rw [hv'] at ha
  rw [if_neg (by simp [hv'])]
  obtain ⟨hs, ho⟩ := allOk_own hv'
  have ho := ho t (by simp)
  have hsz : t.size ≤ 120 := by rw [← parts_len]; exact own_parts ho
  repeat' (first | refine awp_seq_k fun K hK => ?_ | ((first | refine awp_region_k (by kernel_rfl) fun R hR => ?_ | refine awp_draw mixed (by kernel_rfl) (by kernel_rfl) fun R hR => ?_); simp only [go_sem, bne_self_eq_false]) | ((first | (refine hR _ ?_; clear hR R) | refine awp_skip ?_ | refine awp_exit ?_ | refine awp_ret ?_); try simp only [thenA, inBlockA, reduceIte, reduceCtorEq, Nat.reduceEqDiff, if_false, if_true]) | ((first | refine hK _ ?_ | (clear hK K; first | refine hK _ ?_ | (clear hK K; first | refine hK _ ?_ | (clear hK K; first | refine hK _ ?_ | (clear hK K; refine hK _ ?_))))); clear hK K) | refine awp_true rfl rfl ?_ | refine awp_false rfl rfl ?_ | refine awp_block ?_ | ((first | refine CallK.pure (enter20) (ha) ?_ ?_ | refine CallD.pure (enter20) (ha) ?_ ?_ | refine CallK.pure (enter21) (write_tri t (smT_own hs ho) (by omega)) ?_ ?_ | refine CallD.pure (enter21) (write_tri t (smT_own hs ho) (by omega)) ?_ ?_); (focus first | ((repeat (first | exact trivial | refine ⟨(by first | exact Or.inl rfl | exact Or.inr rfl), ?_⟩)); done) | (simp only [coL, AV.dat, true_or, or_true, AV.d.injEq, go_sem]; done)); simp only [go_sem, bne_self_eq_false]) | refine And.intro (by first | ((repeat' first | omega | exact trivial | rfl | assumption | (intro a e; subst e; rfl) | exact map_sz fun a => (by simp only [go_sem]) | refine And.intro ?_ ?_); done) | fail) ?_ | fail)
  (first | refine ret_pure ?_ ?_ ?_ | refine ret_ro ?_ ?_ ?_); focus exact (by simp only [Tryd.results6, resOkL, resOk, Tryd.ntmps6, List.toList_toArray]; first | decide | (simp only [go_sem]; done) | (simp only [go_sem]; and_intros <;> first | omega | rfl | decide))
  rotate_left; focus exact (by repeat (first | exact Fr.rfl' _ _ | assumption | refine Fr.updk ?_ (by omega) _))
  simp only [resA, resV, Tryd.results6, go_sem]
  all_goals try (first | exact Co.t2 (.dat rfl) (.dat rfl) | exact Co.t3 (.dat rfl) (.dat rfl) (.dat rfl))
 | false =>
  have hv' : (allOk g [t] != 0) = true := by simpa using hv
  rw [if_pos (by simpa using hv')]
  repeat' (first | refine awp_seq_k fun K hK => ?_ | ((first | refine awp_region_k (by kernel_rfl) fun R hR => ?_ | refine awp_draw mixed (by kernel_rfl) (by kernel_rfl) fun R hR => ?_); simp only [go_sem, hv']) | ((first | (refine hR _ ?_; clear hR R) | refine awp_skip ?_ | refine awp_exit ?_ | refine awp_ret ?_); try simp only [thenA, inBlockA, reduceIte, reduceCtorEq, Nat.reduceEqDiff, if_false, if_true]) | ((first | refine hK _ ?_ | (clear hK K; first | refine hK _ ?_ | (clear hK K; first | refine hK _ ?_ | (clear hK K; first | refine hK _ ?_ | (clear hK K; refine hK _ ?_))))); clear hK K) | refine awp_true rfl rfl ?_ | refine awp_false rfl rfl ?_ | refine awp_block ?_ | ((first | refine CallK.pure (enter20) (ha) ?_ ?_ | refine CallD.pure (enter20) (ha) ?_ ?_); (focus first | ((repeat (first | exact trivial | refine ⟨(by first | exact Or.inl rfl | exact Or.inr rfl), ?_⟩)); done) | (simp only [coL, AV.dat, true_or, or_true, AV.d.injEq, go_sem]; done)); simp only [go_sem, hv']) | refine And.intro (by first | ((repeat' first | omega | exact trivial | rfl | assumption | (intro a e; subst e; rfl) | exact map_sz fun a => (by simp only [go_sem]) | refine And.intro ?_ ?_); done) | fail) ?_ | fail)
  (first | refine ret_pure ?_ ?_ ?_ | refine ret_ro ?_ ?_ ?_); focus exact (by simp only [Tryd.results6, resOkL, resOk, Tryd.ntmps6, List.toList_toArray]; first | decide | (simp only [go_sem]; done) | (simp only [go_sem]; and_intros <;> first | omega | rfl | decide))
  rotate_left; focus exact (by repeat (first | exact Fr.rfl' _ _ | assumption | refine Fr.updk ?_ (by omega) _))
  simp only [resA, resV, Tryd.results6, go_sem]
  all_goals try (first | exact Co.t2 (.dat rfl) (.dat rfl) | exact Co.t3 (.dat rfl) (.dat rfl) (.dat rfl))
set_option maxHeartbeats 2000000 in
set_option maxRecDepth 20000 in
theorem clauseText_tri (c : List Lt) (hc : c.length ≤ 8) (hl : ∀ l ∈ c, (smT l.a ∧ l.a.size ≤ 120) ∧ (smT l.b ∧ l.b.size ≤ 120)) : Tri Tryd.prog 12 [.d (clDV c)] (pure' (sA (clT c))) := by
 refine tri_enter Tryd.func12 rfl Tryd.ntmps12 (by simp only [List.length_cons, List.length_nil]; omega) fun w0 h0 k hrd hwr => ?_
 cases he : ((c.length : Nat) : Int) == 0 with
 | true =>
  have he' : c = [] := by simpa using he
  have e4 : clT c = [36, 102, 97, 108, 115, 101] := by rw [he']; rfl
  rw [e4]
  repeat' (first | refine awp_seq_k fun K hK => ?_ | ((first | refine awp_region_k (by kernel_rfl) fun R hR => ?_ | refine awp_draw mixed (by kernel_rfl) (by kernel_rfl) fun R hR => ?_); simp only [go_sem, he, List.length_map]) | ((first | (refine hR _ ?_; clear hR R) | refine awp_skip ?_ | refine awp_exit ?_ | refine awp_ret ?_); try simp only [thenA, inBlockA, reduceIte, reduceCtorEq, Nat.reduceEqDiff, if_false, if_true]) | ((first | refine hK _ ?_ | (clear hK K; first | refine hK _ ?_ | (clear hK K; first | refine hK _ ?_ | (clear hK K; first | refine hK _ ?_ | (clear hK K; refine hK _ ?_))))); clear hK K) | refine awp_true rfl rfl ?_ | refine awp_false rfl rfl ?_ | refine awp_block ?_ | refine And.intro (by first | ((repeat' first | omega | exact trivial | rfl | assumption | (intro a e; subst e; rfl) | exact map_sz fun a => (by simp only [go_sem]) | refine And.intro ?_ ?_); done) | fail) ?_ | fail)
  (first | refine ret_pure ?_ ?_ ?_ | refine ret_ro ?_ ?_ ?_); focus exact (by simp only [Tryd.results12, resOkL, resOk, Tryd.ntmps12, List.toList_toArray]; first | decide | (simp only [go_sem]; done) | (simp only [go_sem]; and_intros <;> first | omega | rfl | decide))
  rotate_left; focus exact (by repeat (first | exact Fr.rfl' _ _ | assumption | refine Fr.updk ?_ (by omega) _))
  simp only [resA, resV, Tryd.results12, go_sem]
  all_goals try (first | exact Co.t2 (.dat rfl) (.dat rfl) | exact Co.t3 (.dat rfl) (.dat rfl) (.dat rfl))
  exact co_s rfl
 | false =>
  have he' : c ≠ [] := by simpa using he
  have e4 : clT c = Lib.join (c.map ltT) [32, 124, 32] := by unfold clT; rw [if_neg he']
  rw [e4]
  repeat' (first | refine awp_seq_k fun K hK => ?_ | ((first | refine awp_region_k (by kernel_rfl) fun R hR => ?_ | refine awp_draw mixed (by kernel_rfl) (by kernel_rfl) fun R hR => ?_); simp only [go_sem, he, List.length_map]) | ((first | (refine hR _ ?_; clear hR R) | refine awp_skip ?_ | refine awp_exit ?_ | refine awp_ret ?_); try simp only [thenA, inBlockA, reduceIte, reduceCtorEq, Nat.reduceEqDiff, if_false, if_true]) | ((first | refine hK _ ?_ | (clear hK K; first | refine hK _ ?_ | (clear hK K; first | refine hK _ ?_ | (clear hK K; first | refine hK _ ?_ | (clear hK K; refine hK _ ?_))))); clear hK K) | refine awp_true rfl rfl ?_ | refine awp_false rfl rfl ?_ | refine awp_block ?_ | refine And.intro (by first | ((repeat' first | omega | exact trivial | rfl | assumption | (intro a e; subst e; rfl) | exact map_sz fun a => (by simp only [go_sem]) | refine And.intro ?_ ?_); done) | fail) ?_ | fail)
  refine awp_loop (fun σ => ∃ i : Nat, σ.t 0 = .d (clDV c) ∧ σ.t 3 = sA (Lib.join ((c.take i).map ltT) [32, 124, 32]) ∧ σ.t 4 = iA i ∧ Fr k h0 σ.h ∧ k < σ.k ∧ i ≤ c.length) (fun σ => c.length - (intOf' (σ.t 4)).toNat) ?_ ?_
  ·refine ⟨0, ?_⟩
   simp only [go_sem, List.take_zero, Lib.join_nil]
   and_intros; all_goals try (first | rfl | omega | assumption | ((repeat (first | exact Fr.rfl' _ _ | assumption | refine Fr.updk ?_ (by omega) _)); done))
  ·rintro σ ⟨i, s0, s3, s4, hF, hk, hi⟩
   have hne := ltne hk
   have hjl := join_sum [32, 124, 32] ((c.take i).map ltT)
   have hjl2 : (((c.take i).map ltT).map fun x => x.length + ([32, 124, 32] : By).length).sum ≤ ((c.take i).map fun _ => 7000).sum := by
    rw [List.map_map]
    refine sum_le fun u hu => ?_
    have hu := hl u (List.mem_of_mem_take hu)
    have := ltT_len hu.1.1 hu.2.1
    show (ltT u).length + 3 ≤ 7000
    omega
   have hjl3 : ((c.take i).map fun _ => 7000).sum ≤ 7000 * 8 := by
    rw [List.map_const', List.sum_replicate_nat, List.length_take]; omega
   rcases Nat.lt_or_ge i c.length with hlt | hge
   ·have hz : (i : Int) < (c.length : Int) := by omega
    have e1 : (c.map ltDV).getD i default = ltDV c[i] := nth_map ltDV hlt _
    obtain ⟨⟨a1, a2⟩, b1, b2⟩ := hl _ (List.getElem_mem hlt)
    have la := tmT_len _ a1
    have lb := tmT_len _ b1
    have hp := clT_succ hlt
    have et : ltT c[i] = tmT c[i].a ++ (if c[i].y = true then [32, 61, 32] else [32, 33, 61, 32]) ++ tmT c[i].b := rfl
    by_cases h0 : i = 0
    ·subst h0
     have hz0 : decide (((0 : Nat) : Int) > 0) = false := rfl
     have e0 : Lib.join ((c.take 0).map ltT) [32, 124, 32] = [] := rfl
     rw [e0] at s3 hp
     rw [if_pos rfl, et] at hp
     cases hy : c[0].y with
     | true =>
      rw [if_pos hy] at hp
      repeat' (first | refine awp_seq_k fun K hK => ?_ | ((first | refine awp_region_k (by kernel_rfl) fun R hR => ?_ | refine awp_draw mixed (by kernel_rfl) (by kernel_rfl) fun R hR => ?_); simp only [go_sem, s0, s3, s4, hz, hz0, e1, hne, hy, List.length_append, List.length_cons, Int.toNat_natCast, List.length_map]) | ((first | (refine hR _ ?_; clear hR R) | refine awp_skip ?_ | refine awp_exit ?_ | refine awp_ret ?_); try simp only [thenA, inBlockA, reduceIte, reduceCtorEq, Nat.reduceEqDiff, if_false, if_true]) | ((first | refine hK _ ?_ | (clear hK K; first | refine hK _ ?_ | (clear hK K; first | refine hK _ ?_ | (clear hK K; first | refine hK _ ?_ | (clear hK K; refine hK _ ?_))))); clear hK K) | refine awp_true rfl rfl ?_ | refine awp_false rfl rfl ?_ | refine awp_block ?_ | ((first | refine CallK.pure (enter11) (text_tri c[0].a a1 (by omega)) ?_ ?_ | refine CallD.pure (enter11) (text_tri c[0].a a1 (by omega)) ?_ ?_); (focus first | ((repeat (first | exact trivial | refine ⟨(by first | exact Or.inl rfl | exact Or.inr rfl), ?_⟩)); done) | (simp only [coL, AV.dat, true_or, or_true, AV.d.injEq, go_sem]; done)); simp only [go_sem, s0, s3, s4, hz, hz0, e1, hne, hy, List.length_append, List.length_cons, Int.toNat_natCast, List.length_map]) | ((first | refine CallK.pure (enter11) (text_tri c[0].b b1 (by omega)) ?_ ?_ | refine CallD.pure (enter11) (text_tri c[0].b b1 (by omega)) ?_ ?_); (focus first | ((repeat (first | exact trivial | refine ⟨(by first | exact Or.inl rfl | exact Or.inr rfl), ?_⟩)); done) | (simp only [coL, AV.dat, true_or, or_true, AV.d.injEq, go_sem]; done)); simp only [go_sem, s0, s3, s4, hz, hz0, e1, hne, hy, List.length_append, List.length_cons, Int.toNat_natCast, List.length_map]) | refine And.intro (by first | ((repeat' first | omega | exact trivial | rfl | assumption | (intro a e; subst e; rfl) | exact map_sz fun a => (by simp only [go_sem]) | refine And.intro ?_ ?_); done) | fail) ?_ | fail)
      refine ⟨⟨0 + 1, ?_⟩, ?_⟩
      rotate_left
      ·simp only [go_sem, s0, s3, s4, hp]; omega
      simp only [go_sem, s0, s3, s4, hp]
      and_intros; all_goals try (first | rfl | omega | assumption | ((repeat (first | exact Fr.rfl' _ _ | assumption | refine Fr.updk ?_ (by omega) _)); done))
     | false =>
      rw [if_neg (by simp [hy])] at hp
      repeat' (first | refine awp_seq_k fun K hK => ?_ | ((first | refine awp_region_k (by kernel_rfl) fun R hR => ?_ | refine awp_draw mixed (by kernel_rfl) (by kernel_rfl) fun R hR => ?_); simp only [go_sem, s0, s3, s4, hz, hz0, e1, hne, hy, List.length_append, List.length_cons, Int.toNat_natCast, List.length_map]) | ((first | (refine hR _ ?_; clear hR R) | refine awp_skip ?_ | refine awp_exit ?_ | refine awp_ret ?_); try simp only [thenA, inBlockA, reduceIte, reduceCtorEq, Nat.reduceEqDiff, if_false, if_true]) | ((first | refine hK _ ?_ | (clear hK K; first | refine hK _ ?_ | (clear hK K; first | refine hK _ ?_ | (clear hK K; first | refine hK _ ?_ | (clear hK K; refine hK _ ?_))))); clear hK K) | refine awp_true rfl rfl ?_ | refine awp_false rfl rfl ?_ | refine awp_block ?_ | ((first | refine CallK.pure (enter11) (text_tri c[0].a a1 (by omega)) ?_ ?_ | refine CallD.pure (enter11) (text_tri c[0].a a1 (by omega)) ?_ ?_); (focus first | ((repeat (first | exact trivial | refine ⟨(by first | exact Or.inl rfl | exact Or.inr rfl), ?_⟩)); done) | (simp only [coL, AV.dat, true_or, or_true, AV.d.injEq, go_sem]; done)); simp only [go_sem, s0, s3, s4, hz, hz0, e1, hne, hy, List.length_append, List.length_cons, Int.toNat_natCast, List.length_map]) | ((first | refine CallK.pure (enter11) (text_tri c[0].b b1 (by omega)) ?_ ?_ | refine CallD.pure (enter11) (text_tri c[0].b b1 (by omega)) ?_ ?_); (focus first | ((repeat (first | exact trivial | refine ⟨(by first | exact Or.inl rfl | exact Or.inr rfl), ?_⟩)); done) | (simp only [coL, AV.dat, true_or, or_true, AV.d.injEq, go_sem]; done)); simp only [go_sem, s0, s3, s4, hz, hz0, e1, hne, hy, List.length_append, List.length_cons, Int.toNat_natCast, List.length_map]) | refine And.intro (by first | ((repeat' first | omega | exact trivial | rfl | assumption | (intro a e; subst e; rfl) | exact map_sz fun a => (by simp only [go_sem]) | refine And.intro ?_ ?_); done) | fail) ?_ | fail)
      refine ⟨⟨0 + 1, ?_⟩, ?_⟩
      rotate_left
      ·simp only [go_sem, s0, s3, s4, hp]; omega
      simp only [go_sem, s0, s3, s4, hp]
      and_intros; all_goals try (first | rfl | omega | assumption | ((repeat (first | exact Fr.rfl' _ _ | assumption | refine Fr.updk ?_ (by omega) _)); done))
    ·have hz0 : decide ((i : Int) > 0) = true := by simp; omega
     rw [if_neg h0, et] at hp
     cases hy : c[i].y with
     | true =>
      rw [if_pos hy] at hp
      repeat' (first | refine awp_seq_k fun K hK => ?_ | ((first | refine awp_region_k (by kernel_rfl) fun R hR => ?_ | refine awp_draw mixed (by kernel_rfl) (by kernel_rfl) fun R hR => ?_); simp only [go_sem, s0, s3, s4, hz, hz0, e1, hne, hy, List.length_append, List.length_cons, Int.toNat_natCast, List.length_map]) | ((first | (refine hR _ ?_; clear hR R) | refine awp_skip ?_ | refine awp_exit ?_ | refine awp_ret ?_); try simp only [thenA, inBlockA, reduceIte, reduceCtorEq, Nat.reduceEqDiff, if_false, if_true]) | ((first | refine hK _ ?_ | (clear hK K; first | refine hK _ ?_ | (clear hK K; first | refine hK _ ?_ | (clear hK K; first | refine hK _ ?_ | (clear hK K; refine hK _ ?_))))); clear hK K) | refine awp_true rfl rfl ?_ | refine awp_false rfl rfl ?_ | refine awp_block ?_ | ((first | refine CallK.pure (enter11) (text_tri c[i].a a1 (by omega)) ?_ ?_ | refine CallD.pure (enter11) (text_tri c[i].a a1 (by omega)) ?_ ?_); (focus first | ((repeat (first | exact trivial | refine ⟨(by first | exact Or.inl rfl | exact Or.inr rfl), ?_⟩)); done) | (simp only [coL, AV.dat, true_or, or_true, AV.d.injEq, go_sem]; done)); simp only [go_sem, s0, s3, s4, hz, hz0, e1, hne, hy, List.length_append, List.length_cons, Int.toNat_natCast, List.length_map]) | ((first | refine CallK.pure (enter11) (text_tri c[i].b b1 (by omega)) ?_ ?_ | refine CallD.pure (enter11) (text_tri c[i].b b1 (by omega)) ?_ ?_); (focus first | ((repeat (first | exact trivial | refine ⟨(by first | exact Or.inl rfl | exact Or.inr rfl), ?_⟩)); done) | (simp only [coL, AV.dat, true_or, or_true, AV.d.injEq, go_sem]; done)); simp only [go_sem, s0, s3, s4, hz, hz0, e1, hne, hy, List.length_append, List.length_cons, Int.toNat_natCast, List.length_map]) | refine And.intro (by first | ((repeat' first | omega | exact trivial | rfl | assumption | (intro a e; subst e; rfl) | exact map_sz fun a => (by simp only [go_sem]) | refine And.intro ?_ ?_); done) | fail) ?_ | fail)
      refine ⟨⟨i + 1, ?_⟩, ?_⟩
      rotate_left
      ·simp only [go_sem, s0, s3, s4, hp]; omega
      simp only [go_sem, s0, s3, s4, hp]
      and_intros; all_goals try (first | rfl | omega | assumption | ((repeat (first | exact Fr.rfl' _ _ | assumption | refine Fr.updk ?_ (by omega) _)); done))
     | false =>
      rw [if_neg (by simp [hy])] at hp
      repeat' (first | refine awp_seq_k fun K hK => ?_ | ((first | refine awp_region_k (by kernel_rfl) fun R hR => ?_ | refine awp_draw mixed (by kernel_rfl) (by kernel_rfl) fun R hR => ?_); simp only [go_sem, s0, s3, s4, hz, hz0, e1, hne, hy, List.length_append, List.length_cons, Int.toNat_natCast, List.length_map]) | ((first | (refine hR _ ?_; clear hR R) | refine awp_skip ?_ | refine awp_exit ?_ | refine awp_ret ?_); try simp only [thenA, inBlockA, reduceIte, reduceCtorEq, Nat.reduceEqDiff, if_false, if_true]) | ((first | refine hK _ ?_ | (clear hK K; first | refine hK _ ?_ | (clear hK K; first | refine hK _ ?_ | (clear hK K; first | refine hK _ ?_ | (clear hK K; refine hK _ ?_))))); clear hK K) | refine awp_true rfl rfl ?_ | refine awp_false rfl rfl ?_ | refine awp_block ?_ | ((first | refine CallK.pure (enter11) (text_tri c[i].a a1 (by omega)) ?_ ?_ | refine CallD.pure (enter11) (text_tri c[i].a a1 (by omega)) ?_ ?_); (focus first | ((repeat (first | exact trivial | refine ⟨(by first | exact Or.inl rfl | exact Or.inr rfl), ?_⟩)); done) | (simp only [coL, AV.dat, true_or, or_true, AV.d.injEq, go_sem]; done)); simp only [go_sem, s0, s3, s4, hz, hz0, e1, hne, hy, List.length_append, List.length_cons, Int.toNat_natCast, List.length_map]) | ((first | refine CallK.pure (enter11) (text_tri c[i].b b1 (by omega)) ?_ ?_ | refine CallD.pure (enter11) (text_tri c[i].b b1 (by omega)) ?_ ?_); (focus first | ((repeat (first | exact trivial | refine ⟨(by first | exact Or.inl rfl | exact Or.inr rfl), ?_⟩)); done) | (simp only [coL, AV.dat, true_or, or_true, AV.d.injEq, go_sem]; done)); simp only [go_sem, s0, s3, s4, hz, hz0, e1, hne, hy, List.length_append, List.length_cons, Int.toNat_natCast, List.length_map]) | refine And.intro (by first | ((repeat' first | omega | exact trivial | rfl | assumption | (intro a e; subst e; rfl) | exact map_sz fun a => (by simp only [go_sem]) | refine And.intro ?_ ?_); done) | fail) ?_ | fail)
      refine ⟨⟨i + 1, ?_⟩, ?_⟩
      rotate_left
      ·simp only [go_sem, s0, s3, s4, hp]; omega
      simp only [go_sem, s0, s3, s4, hp]
      and_intros; all_goals try (first | rfl | omega | assumption | ((repeat (first | exact Fr.rfl' _ _ | assumption | refine Fr.updk ?_ (by omega) _)); done))
   ·have hz : ¬ ((i : Int) < (c.length : Int)) := by omega
    obtain rfl : i = c.length := by omega
    rw [List.take_length] at s3
    repeat' (first | refine awp_seq_k fun K hK => ?_ | ((first | refine awp_region_k (by kernel_rfl) fun R hR => ?_ | refine awp_draw mixed (by kernel_rfl) (by kernel_rfl) fun R hR => ?_); simp only [go_sem, s0, s3, s4, hz, hne, List.length_map]) | ((first | (refine hR _ ?_; clear hR R) | refine awp_skip ?_ | refine awp_exit ?_ | refine awp_ret ?_); try simp only [thenA, inBlockA, reduceIte, reduceCtorEq, Nat.reduceEqDiff, if_false, if_true]) | ((first | refine hK _ ?_ | (clear hK K; first | refine hK _ ?_ | (clear hK K; first | refine hK _ ?_ | (clear hK K; first | refine hK _ ?_ | (clear hK K; refine hK _ ?_))))); clear hK K) | refine awp_true rfl rfl ?_ | refine awp_false rfl rfl ?_ | refine awp_block ?_ | refine And.intro (by first | ((repeat' first | omega | exact trivial | rfl | assumption | (intro a e; subst e; rfl) | exact map_sz fun a => (by simp only [go_sem]) | refine And.intro ?_ ?_); done) | fail) ?_ | fail)
    (first | refine ret_pure ?_ ?_ ?_ | refine ret_ro ?_ ?_ ?_); focus exact (by simp only [Tryd.results12, resOkL, resOk, Tryd.ntmps12, List.toList_toArray]; first | decide | (simp only [go_sem]; done) | (simp only [go_sem]; and_intros <;> first | omega | rfl | decide))
    rotate_left; focus exact (by repeat (first | exact Fr.rfl' _ _ | assumption | refine Fr.updk ?_ (by omega) _))
    simp only [resA, resV, Tryd.results12, go_sem]
    all_goals try (first | exact Co.t2 (.dat rfl) (.dat rfl) | exact Co.t3 (.dat rfl) (.dat rfl) (.dat rfl))
    exact co_s rfl
def clauseAns (g : List Int) (c : List Lt) : By × Int := if sigOk g ≠ 0 then ([], sigOk g) else if clOk g c ≠ 0 then ([], clOk g c) else (clT c, 0)
set_option maxHeartbeats 2000000 in
set_option maxRecDepth 20000 in
theorem textClause_tri (g : List Int) (c : List Lt) (hcl : c.length ≤ 4000000) : Tri Tryd.prog 7 [.d (sgDV g), .d (clDV c)] (pure' (.tup [sA (clauseAns g c).1, iA (clauseAns g c).2])) := by
 unfold clauseAns
 refine tri_enter Tryd.func7 rfl Tryd.ntmps7 (by simp only [List.length_cons, List.length_nil]; omega) fun w0 h0 k hrd hwr => ?_
 have h1 := signature_tri g
 have h2 := right_tri g c hcl
 cases hv : sigOk g == 0 with
 | false =>
  have hv' : (sigOk g != 0) = true := by simpa using hv
  have hv2 : (sigOk g == 0) = false := hv
  rw [if_pos (by simpa using hv')]
  repeat' (first | refine awp_seq_k fun K hK => ?_ | ((first | refine awp_region_k (by kernel_rfl) fun R hR => ?_ | refine awp_draw mixed (by kernel_rfl) (by kernel_rfl) fun R hR => ?_); simp only [go_sem, hv', hv2]) | ((first | (refine hR _ ?_; clear hR R) | refine awp_skip ?_ | refine awp_exit ?_ | refine awp_ret ?_); try simp only [thenA, inBlockA, reduceIte, reduceCtorEq, Nat.reduceEqDiff, if_false, if_true]) | ((first | refine hK _ ?_ | (clear hK K; first | refine hK _ ?_ | (clear hK K; first | refine hK _ ?_ | (clear hK K; first | refine hK _ ?_ | (clear hK K; refine hK _ ?_))))); clear hK K) | refine awp_true rfl rfl ?_ | refine awp_false rfl rfl ?_ | refine awp_block ?_ | ((first | refine CallK.pure (enter22) (h1) ?_ ?_ | refine CallD.pure (enter22) (h1) ?_ ?_); (focus first | ((repeat (first | exact trivial | refine ⟨(by first | exact Or.inl rfl | exact Or.inr rfl), ?_⟩)); done) | (simp only [coL, AV.dat, true_or, or_true, AV.d.injEq, go_sem]; done)); simp only [go_sem, hv', hv2]) | refine And.intro (by first | ((repeat' first | omega | exact trivial | rfl | assumption | (intro a e; subst e; rfl) | exact map_sz fun a => (by simp only [go_sem]) | refine And.intro ?_ ?_); done) | fail) ?_ | fail)
  (first | refine ret_pure ?_ ?_ ?_ | refine ret_ro ?_ ?_ ?_); focus exact (by simp only [Tryd.results7, resOkL, resOk, Tryd.ntmps7, List.toList_toArray]; first | decide | (simp only [go_sem]; done) | (simp only [go_sem]; and_intros <;> first | omega | rfl | decide))
  rotate_left; focus exact (by repeat (first | exact Fr.rfl' _ _ | assumption | refine Fr.updk ?_ (by omega) _))
  simp only [resA, resV, Tryd.results7, go_sem]
  all_goals try (first | exact Co.t2 (.dat rfl) (.dat rfl) | exact Co.t3 (.dat rfl) (.dat rfl) (.dat rfl))
 | true =>
  have hs : sigOk g = 0 := by simpa using hv
  rw [if_neg (by simp [hs])]
  rw [hs] at h1
  cases hw : clOk g c == 0 with
  | false =>
   have hw' : (clOk g c != 0) = true := by simpa using hw
   rw [if_pos (by simpa using hw')]
   repeat' (first | refine awp_seq_k fun K hK => ?_ | ((first | refine awp_region_k (by kernel_rfl) fun R hR => ?_ | refine awp_draw mixed (by kernel_rfl) (by kernel_rfl) fun R hR => ?_); simp only [go_sem, hw', beq_self_eq_true]) | ((first | (refine hR _ ?_; clear hR R) | refine awp_skip ?_ | refine awp_exit ?_ | refine awp_ret ?_); try simp only [thenA, inBlockA, reduceIte, reduceCtorEq, Nat.reduceEqDiff, if_false, if_true]) | ((first | refine hK _ ?_ | (clear hK K; first | refine hK _ ?_ | (clear hK K; first | refine hK _ ?_ | (clear hK K; first | refine hK _ ?_ | (clear hK K; refine hK _ ?_))))); clear hK K) | refine awp_true rfl rfl ?_ | refine awp_false rfl rfl ?_ | refine awp_block ?_ | ((first | refine CallK.pure (enter22) (h1) ?_ ?_ | refine CallD.pure (enter22) (h1) ?_ ?_ | refine CallK.pure (enter23) (h2) ?_ ?_ | refine CallD.pure (enter23) (h2) ?_ ?_); (focus first | ((repeat (first | exact trivial | refine ⟨(by first | exact Or.inl rfl | exact Or.inr rfl), ?_⟩)); done) | (simp only [coL, AV.dat, true_or, or_true, AV.d.injEq, go_sem]; done)); simp only [go_sem, hw', beq_self_eq_true]) | refine And.intro (by first | ((repeat' first | omega | exact trivial | rfl | assumption | (intro a e; subst e; rfl) | exact map_sz fun a => (by simp only [go_sem]) | refine And.intro ?_ ?_); done) | fail) ?_ | fail)
   (first | refine ret_pure ?_ ?_ ?_ | refine ret_ro ?_ ?_ ?_); focus exact (by simp only [Tryd.results7, resOkL, resOk, Tryd.ntmps7, List.toList_toArray]; first | decide | (simp only [go_sem]; done) | (simp only [go_sem]; and_intros <;> first | omega | rfl | decide))
   rotate_left; focus exact (by repeat (first | exact Fr.rfl' _ _ | assumption | refine Fr.updk ?_ (by omega) _))
   simp only [resA, resV, Tryd.results7, go_sem]
   all_goals try (first | exact Co.t2 (.dat rfl) (.dat rfl) | exact Co.t3 (.dat rfl) (.dat rfl) (.dat rfl))
  | true =>
   have hc : clOk g c = 0 := by simpa using hw
   rw [if_neg (by simp [hc])]
   rw [hc] at h2
   obtain ⟨hc8, hl⟩ := smT_lits hs hc
   cases he : ((c.length : Nat) : Int) == 0 with
   | true =>
    have he' : c = [] := by simpa using he
    have e4 : clT c = [36, 102, 97, 108, 115, 101] := by rw [he']; rfl
    rw [e4]
    repeat' (first | refine awp_seq_k fun K hK => ?_ | ((first | refine awp_region_k (by kernel_rfl) fun R hR => ?_ | refine awp_draw mixed (by kernel_rfl) (by kernel_rfl) fun R hR => ?_); simp only [go_sem, he, bne_self_eq_false, beq_self_eq_true, List.length_map]) | ((first | (refine hR _ ?_; clear hR R) | refine awp_skip ?_ | refine awp_exit ?_ | refine awp_ret ?_); try simp only [thenA, inBlockA, reduceIte, reduceCtorEq, Nat.reduceEqDiff, if_false, if_true]) | ((first | refine hK _ ?_ | (clear hK K; first | refine hK _ ?_ | (clear hK K; first | refine hK _ ?_ | (clear hK K; first | refine hK _ ?_ | (clear hK K; refine hK _ ?_))))); clear hK K) | refine awp_true rfl rfl ?_ | refine awp_false rfl rfl ?_ | refine awp_block ?_ | ((first | refine CallK.pure (enter22) (h1) ?_ ?_ | refine CallD.pure (enter22) (h1) ?_ ?_ | refine CallK.pure (enter23) (h2) ?_ ?_ | refine CallD.pure (enter23) (h2) ?_ ?_); (focus first | ((repeat (first | exact trivial | refine ⟨(by first | exact Or.inl rfl | exact Or.inr rfl), ?_⟩)); done) | (simp only [coL, AV.dat, true_or, or_true, AV.d.injEq, go_sem]; done)); simp only [go_sem, he, bne_self_eq_false, beq_self_eq_true, List.length_map]) | refine And.intro (by first | ((repeat' first | omega | exact trivial | rfl | assumption | (intro a e; subst e; rfl) | exact map_sz fun a => (by simp only [go_sem]) | refine And.intro ?_ ?_); done) | fail) ?_ | fail)
    (first | refine ret_pure ?_ ?_ ?_ | refine ret_ro ?_ ?_ ?_); focus exact (by simp only [Tryd.results7, resOkL, resOk, Tryd.ntmps7, List.toList_toArray]; first | decide | (simp only [go_sem]; done) | (simp only [go_sem]; and_intros <;> first | omega | rfl | decide))
    rotate_left; focus exact (by repeat (first | exact Fr.rfl' _ _ | assumption | refine Fr.updk ?_ (by omega) _))
    simp only [resA, resV, Tryd.results7, go_sem]
    all_goals try (first | exact Co.t2 (.dat rfl) (.dat rfl) | exact Co.t3 (.dat rfl) (.dat rfl) (.dat rfl))
   | false =>
    have he' : c ≠ [] := by simpa using he
    have e4 : clT c = Lib.join (c.map ltT) [32, 124, 32] := by unfold clT; rw [if_neg he']
    rw [e4]
    repeat' (first | refine awp_ghost (ghost_nil (i := 7) (e := 9) rfl) ?_ | refine awp_seq_k fun K hK => ?_ | ((first | refine awp_region_k (by kernel_rfl) fun R hR => ?_ | refine awp_draw mixed (by kernel_rfl) (by kernel_rfl) fun R hR => ?_); simp only [go_sem, he, bne_self_eq_false, beq_self_eq_true, List.length_map]) | ((first | (refine hR _ ?_; clear hR R) | refine awp_skip ?_ | refine awp_exit ?_ | refine awp_ret ?_); try simp only [thenA, inBlockA, reduceIte, reduceCtorEq, Nat.reduceEqDiff, if_false, if_true]) | ((first | refine hK _ ?_ | (clear hK K; first | refine hK _ ?_ | (clear hK K; first | refine hK _ ?_ | (clear hK K; first | refine hK _ ?_ | (clear hK K; refine hK _ ?_))))); clear hK K) | refine awp_true rfl rfl ?_ | refine awp_false rfl rfl ?_ | refine awp_block ?_ | ((first | refine CallK.pure (enter22) (h1) ?_ ?_ | refine CallD.pure (enter22) (h1) ?_ ?_ | refine CallK.pure (enter23) (h2) ?_ ?_ | refine CallD.pure (enter23) (h2) ?_ ?_); (focus first | ((repeat (first | exact trivial | refine ⟨(by first | exact Or.inl rfl | exact Or.inr rfl), ?_⟩)); done) | (simp only [coL, AV.dat, true_or, or_true, AV.d.injEq, go_sem]; done)); simp only [go_sem, he, bne_self_eq_false, beq_self_eq_true, List.length_map]) | refine And.intro (by first | ((repeat' first | omega | exact trivial | rfl | assumption | (intro a e; subst e; rfl) | exact map_sz fun a => (by simp only [go_sem]) | refine And.intro ?_ ?_); done) | fail) ?_ | fail)
    refine awp_loop (fun σ => ∃ i : Nat, σ.t 7 = .own (k + 1 + 1 + 1 + 1 + 1 + 1 + 1, 0) (((c.take i).map ltT).map sD) ∧ σ.t 24 = .d (clDV c) ∧ σ.t 25 = iA c.length ∧ σ.t 26 = iA i ∧ σ.h (k + 1 + 1 + 1 + 1 + 1 + 1 + 1, 0) = some (.perm 9 i) ∧ Fr k h0 σ.h ∧ k + 1 + 1 + 1 + 1 + 1 + 1 + 1 < σ.k ∧ i ≤ c.length) (fun σ => c.length - (intOf' (σ.t 26)).toNat) ?_ ?_
    ·refine ⟨0, ?_⟩
     simp only [go_sem, List.take_zero]
     and_intros; all_goals try (first | rfl | omega | assumption | ((repeat (first | exact Fr.rfl' _ _ | assumption | refine Fr.updk ?_ (by omega) _)); done))
    ·rintro σ ⟨i, s7, s24, s25, s26, sh, hF, hk, hi⟩
     have hne := ltne (show k + 1 + 1 + 1 + 1 + 1 + 1 + 1 < σ.k by omega)
     have hml : (((c.take i).map ltT).map sD).length = i := by simp; omega
     rcases Nat.lt_or_ge i c.length with hlt | hge
     ·have hz : (i : Int) < (c.length : Int) := by omega
      have e1 : (c.map ltDV).getD i default = ltDV c[i] := nth_map ltDV hlt _
      obtain ⟨⟨a1, a2⟩, b1, b2⟩ := hl _ (List.getElem_mem hlt)
      have la := tmT_len _ a1
      have lb := tmT_len _ b1
      have et : ltT c[i] = tmT c[i].a ++ (if c[i].y = true then [32, 61, 32] else [32, 33, 61, 32]) ++ tmT c[i].b := rfl
      have htl : (c.take (i + 1)).length = i + 1 := by rw [List.length_take]; omega
      have etk : ((c.take i).map ltT).map sD ++ [sD (ltT c[i])] = ((c.take (i + 1)).map ltT).map sD := by rw [List.take_succ_eq_append_getElem hlt, List.map_append, List.map_append]; rfl
      cases hy : c[i].y with
      | true =>
       rw [et, if_pos hy] at etk
       simp only [List.append_assoc, List.cons_append, List.nil_append] at etk
       repeat' (first | refine awp_seq_k fun K hK => ?_ | ((first | refine awp_region_k (by kernel_rfl) fun R hR => ?_ | refine awp_draw mixed (by kernel_rfl) (by kernel_rfl) fun R hR => ?_); simp only [go_sem, s7, s24, s25, s26, sh, hz, e1, hne, hy, hml, List.length_append, List.length_cons, Int.toNat_natCast, List.length_map]) | ((first | (refine hR _ ?_; clear hR R) | refine awp_skip ?_ | refine awp_exit ?_ | refine awp_ret ?_); try simp only [thenA, inBlockA, reduceIte, reduceCtorEq, Nat.reduceEqDiff, if_false, if_true]) | ((first | refine hK _ ?_ | (clear hK K; first | refine hK _ ?_ | (clear hK K; first | refine hK _ ?_ | (clear hK K; first | refine hK _ ?_ | (clear hK K; refine hK _ ?_))))); clear hK K) | refine awp_true rfl rfl ?_ | refine awp_false rfl rfl ?_ | refine awp_block ?_ | ((first | refine CallK.pure (enter21) (write_tri c[i].a a1 (by omega)) ?_ ?_ | refine CallD.pure (enter21) (write_tri c[i].a a1 (by omega)) ?_ ?_); (focus first | ((repeat (first | exact trivial | refine ⟨(by first | exact Or.inl rfl | exact Or.inr rfl), ?_⟩)); done) | (simp only [coL, AV.dat, true_or, or_true, AV.d.injEq, go_sem]; done)); simp only [go_sem, s7, s24, s25, s26, sh, hz, e1, hne, hy, hml, List.length_append, List.length_cons, Int.toNat_natCast, List.length_map]) | ((first | refine CallK.pure (enter21) (write_tri c[i].b b1 (by omega)) ?_ ?_ | refine CallD.pure (enter21) (write_tri c[i].b b1 (by omega)) ?_ ?_); (focus first | ((repeat (first | exact trivial | refine ⟨(by first | exact Or.inl rfl | exact Or.inr rfl), ?_⟩)); done) | (simp only [coL, AV.dat, true_or, or_true, AV.d.injEq, go_sem]; done)); simp only [go_sem, s7, s24, s25, s26, sh, hz, e1, hne, hy, hml, List.length_append, List.length_cons, Int.toNat_natCast, List.length_map]) | refine And.intro (by first | ((repeat' first | omega | exact trivial | rfl | assumption | (intro a e; subst e; rfl) | exact map_sz fun a => (by simp only [go_sem]) | refine And.intro ?_ ?_); done) | fail) ?_ | fail)
       refine ⟨⟨i + 1, ?_⟩, ?_⟩
       rotate_left
       ·simp only [go_sem, s7, s24, s25, s26, sh, hne, etk, hml, htl, List.length_map]; omega
       simp only [go_sem, s7, s24, s25, s26, sh, hne, etk, hml, htl, List.length_map]
       and_intros; all_goals try (first | rfl | omega | assumption | ((repeat (first | exact Fr.rfl' _ _ | assumption | refine Fr.updk ?_ (by omega) _)); done))
      | false =>
       rw [et, if_neg (by simp [hy])] at etk
       simp only [List.append_assoc, List.cons_append, List.nil_append] at etk
       repeat' (first | refine awp_seq_k fun K hK => ?_ | ((first | refine awp_region_k (by kernel_rfl) fun R hR => ?_ | refine awp_draw mixed (by kernel_rfl) (by kernel_rfl) fun R hR => ?_); simp only [go_sem, s7, s24, s25, s26, sh, hz, e1, hne, hy, hml, List.length_append, List.length_cons, Int.toNat_natCast, List.length_map]) | ((first | (refine hR _ ?_; clear hR R) | refine awp_skip ?_ | refine awp_exit ?_ | refine awp_ret ?_); try simp only [thenA, inBlockA, reduceIte, reduceCtorEq, Nat.reduceEqDiff, if_false, if_true]) | ((first | refine hK _ ?_ | (clear hK K; first | refine hK _ ?_ | (clear hK K; first | refine hK _ ?_ | (clear hK K; first | refine hK _ ?_ | (clear hK K; refine hK _ ?_))))); clear hK K) | refine awp_true rfl rfl ?_ | refine awp_false rfl rfl ?_ | refine awp_block ?_ | ((first | refine CallK.pure (enter21) (write_tri c[i].a a1 (by omega)) ?_ ?_ | refine CallD.pure (enter21) (write_tri c[i].a a1 (by omega)) ?_ ?_); (focus first | ((repeat (first | exact trivial | refine ⟨(by first | exact Or.inl rfl | exact Or.inr rfl), ?_⟩)); done) | (simp only [coL, AV.dat, true_or, or_true, AV.d.injEq, go_sem]; done)); simp only [go_sem, s7, s24, s25, s26, sh, hz, e1, hne, hy, hml, List.length_append, List.length_cons, Int.toNat_natCast, List.length_map]) | ((first | refine CallK.pure (enter21) (write_tri c[i].b b1 (by omega)) ?_ ?_ | refine CallD.pure (enter21) (write_tri c[i].b b1 (by omega)) ?_ ?_); (focus first | ((repeat (first | exact trivial | refine ⟨(by first | exact Or.inl rfl | exact Or.inr rfl), ?_⟩)); done) | (simp only [coL, AV.dat, true_or, or_true, AV.d.injEq, go_sem]; done)); simp only [go_sem, s7, s24, s25, s26, sh, hz, e1, hne, hy, hml, List.length_append, List.length_cons, Int.toNat_natCast, List.length_map]) | refine And.intro (by first | ((repeat' first | omega | exact trivial | rfl | assumption | (intro a e; subst e; rfl) | exact map_sz fun a => (by simp only [go_sem]) | refine And.intro ?_ ?_); done) | fail) ?_ | fail)
       refine ⟨⟨i + 1, ?_⟩, ?_⟩
       rotate_left
       ·simp only [go_sem, s7, s24, s25, s26, sh, hne, etk, hml, htl, List.length_map]; omega
       simp only [go_sem, s7, s24, s25, s26, sh, hne, etk, hml, htl, List.length_map]
       and_intros; all_goals try (first | rfl | omega | assumption | ((repeat (first | exact Fr.rfl' _ _ | assumption | refine Fr.updk ?_ (by omega) _)); done))
     ·have hz : ¬ ((i : Int) < (c.length : Int)) := by omega
      obtain rfl : i = c.length := by omega
      rw [List.take_length] at s7
      have hjl := join_sum [32, 124, 32] (c.map ltT)
      have hjl2 : ((c.map ltT).map fun x => x.length + ([32, 124, 32] : By).length).sum ≤ (c.map fun _ => 7000).sum := by
       rw [List.map_map]
       refine sum_le fun u hu => ?_
       have hu := hl u hu
       have := ltT_len hu.1.1 hu.2.1
       show (ltT u).length + 3 ≤ 7000
       omega
      have hjl3 : (c.map fun _ => 7000).sum ≤ 7000 * 8 := by
       rw [List.map_const', List.sum_replicate_nat]; omega
      repeat' (first | refine awp_seq_k fun K hK => ?_ | ((first | refine awp_region_k (by kernel_rfl) fun R hR => ?_ | refine awp_draw mixed (by kernel_rfl) (by kernel_rfl) fun R hR => ?_); simp only [go_sem, s7, s24, s25, s26, sh, hz, hne]) | ((first | (refine hR _ ?_; clear hR R) | refine awp_skip ?_ | refine awp_exit ?_ | refine awp_ret ?_); try simp only [thenA, inBlockA, reduceIte, reduceCtorEq, Nat.reduceEqDiff, if_false, if_true]) | ((first | refine hK _ ?_ | (clear hK K; first | refine hK _ ?_ | (clear hK K; first | refine hK _ ?_ | (clear hK K; first | refine hK _ ?_ | (clear hK K; refine hK _ ?_))))); clear hK K) | refine awp_true rfl rfl ?_ | refine awp_false rfl rfl ?_ | refine awp_block ?_ | ((first | refine CallK.pure (enter24) (join_tri (c.map ltT) [32, 124, 32] (by simp; omega) (by omega)) ?_ ?_ | refine CallD.pure (enter24) (join_tri (c.map ltT) [32, 124, 32] (by simp; omega) (by omega)) ?_ ?_); (focus first | ((repeat (first | exact trivial | refine ⟨(by first | exact Or.inl rfl | exact Or.inr rfl), ?_⟩)); done) | (simp only [coL, AV.dat, true_or, or_true, AV.d.injEq, go_sem]; done)); simp only [go_sem, s7, s24, s25, s26, sh, hz, hne]) | refine And.intro (by first | ((repeat' first | omega | exact trivial | rfl | assumption | (intro a e; subst e; rfl) | exact map_sz fun a => (by simp only [go_sem]) | refine And.intro ?_ ?_); done) | fail) ?_ | fail)
      (first | refine ret_pure ?_ ?_ ?_ | refine ret_ro ?_ ?_ ?_); focus exact (by simp only [Tryd.results7, resOkL, resOk, Tryd.ntmps7, List.toList_toArray]; first | decide | (simp only [go_sem]; done) | (simp only [go_sem]; and_intros <;> first | omega | rfl | decide))
      rotate_left; focus exact (by repeat (first | exact Fr.rfl' _ _ | assumption | refine Fr.updk ?_ (by omega) _))
      simp only [resA, resV, Tryd.results7, go_sem]
      all_goals try (first | exact Co.t2 (.dat rfl) (.dat rfl) | exact Co.t3 (.dat rfl) (.dat rfl) (.dat rfl))
end Go.Proofs.YtmeekpinkfpnhabDoor
